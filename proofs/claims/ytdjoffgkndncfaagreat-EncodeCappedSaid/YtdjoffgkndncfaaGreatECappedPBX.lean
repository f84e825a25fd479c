/-
  Texts of the proof.
-/
import Derived.Test.YtdjoffgkndncfaaGreatECappedPBU
import Derived.Test.YtdjoffgkndncfaaGreatECappedPBW
set_option linter.unusedVariables false
set_option linter.unusedSimpArgs false
set_option maxHeartbeats 8000000
set_option maxRecDepth 100000
namespace Go.Proofs.YtdjoffgkndncfaaGreat
open Go Go.ChangeShapes Go.WideShapes Go.ChangeAt Go.RowKit Go.Joins Go.Deep
theorem w20_a:buildF 1048576 0 (.mk 3 5 0 ⟨#[]⟩ [] [])=((⟨#[5,4,1]⟩:ByteArray).data.toList,0):=by decide +kernel
theorem w20_b:buildF 1048576 7 (.mk 17 0 0 ⟨#[]⟩ [⟨#[98]⟩,⟨#[97]⟩] [(.mk 3 1 0 ⟨#[]⟩ [] []),(.mk 1 0 0 ⟨#[]⟩ [] [])])=((⟨#[97,0,98,0,2,5,4,2,1,2,0,1,0,4,4,36,1]⟩:ByteArray).data.toList,0):=by decide +kernel
theorem w20_c:buildF 1048576 0 (.mk 17 0 0 ⟨#[]⟩ [⟨#[97]⟩,⟨#[98]⟩] [(.mk 1 0 0 ⟨#[]⟩ [] []),(.mk 3 1 0 ⟨#[]⟩ [] [])])=((⟨#[97,0,98,0,2,5,4,2,1,2,0,1,0,4,4,36,1]⟩:ByteArray).data.toList,0):=by decide +kernel
theorem w20_d:buildF 1048576 0 (.mk 10 0 0 ⟨#[]⟩ [] [(.mk 6 0 0 ⟨#[120]⟩ [] []),(.mk 6 0 0 ⟨#[120]⟩ [] [])])=((⟨#[1,120,0,1,120,0,2,6,4,20,20,4,40,1]⟩:ByteArray).data.toList,0):=by decide +kernel
theorem w20_e:buildF 1048576 2 (.mk 10 0 0 ⟨#[]⟩ [] [(.mk 6 0 0 ⟨#[120]⟩ [] []),(.mk 6 0 0 ⟨#[120]⟩ [] [])])=((⟨#[1,120,0,2,3,4,20,20,4,40,1]⟩:ByteArray).data.toList,0):=by decide +kernel
theorem w20_z:buildF 1048576 0 (.mk 0 0 0 ⟨#[]⟩ [] [])=([],60):=by decide +kernel
theorem w20_f:buildF 2 0 (.mk 3 5 0 ⟨#[]⟩ [] [])=([],5):=by decide +kernel
theorem w20_g:buildF 3 0 (.mk 3 5 0 ⟨#[]⟩ [] [])=((⟨#[5,4,1]⟩:ByteArray).data.toList,0):=by decide +kernel
theorem works20_any (w:World):Calls Tryz.prog 13 #[] w fun r w'=>r=.returned (.bool true)∧Grew w w':=by
 go_enter Tryz.func13,Tryz.ntmps13
 have HG:=zh (Grew.refl w)
 go_upto_region 3 with fail
 obtain⟨g1,hs1⟩:∃g,w.heap.size=g:=⟨_,rfl⟩
 have hvn:=heap_alloc_new w (.cells #[.int .i64 1,.int .i64 0,.int .u64 0,.string ⟨#[]⟩,.slice none 0 0,.slice none 0 0] 26)
 have hg1:=(Grew.refl w).alloc (.cells #[.int .i64 1,.int .i64 0,.int .u64 0,.string ⟨#[]⟩,.slice none 0 0,.slice none 0 0] 26)
 have hz1:(w.alloc (.cells #[.int .i64 1,.int .i64 0,.int .u64 0,.string ⟨#[]⟩,.slice none 0 0,.slice none 0 0] 26)).heap.size=w.heap.size+1:=World.size_alloc _ _
 generalize (w.alloc (.cells #[.int .i64 1,.int .i64 0,.int .u64 0,.string ⟨#[]⟩,.slice none 0 0,.slice none 0 0] 26))=w1 at *
 rw[hs1] at hvn hz1
 try rw[hs1]
 replace HG:=zh (HG.out.trans hg1)
 clear hg1
 have a0:=row_cellT hvn 0 _ rfl
 have a1:=row_cellT hvn 1 _ rfl
 have a2:=row_cellT hvn 2 _ rfl
 have a3:=row_cellT hvn 3 _ rfl
 have a4:=row_cellT hvn 4 _ rfl
 have a5:=row_cellT hvn 5 _ rfl
 clear hvn
 refine wp_region_tables Grew [[],[0],[0,1],[0,1,2],[0,1,2,3],[0,1,2,3],[0,1,2,3],[0,1,2,3,5,6],[0,1,2,3,4,5,6,7],[0,1,2,3],[0,1,2,3,4,5,6,7,8,9],[0,1,2,3,4,5,6,7,8,9,10],[0,1,2,3,4,5,6,7,8,9,10,11],[0,1,2,3,4,5,6,7,8,9,10,11,12],[0,1,2,3,4,5,6,7,8,9,10,11,12,13],[0,1,2,3,4,5,6,7,8,9,10,11,12,13],[0,1,2,3,4,5,6,7,8,9,10,11,12,13],[0,1,2,3,4,5,6,7,8,9,10,11,12,13,15,16],[0,1,2,3,4,5,6,7,8,9,10,11,12,13,14,15,16,17],[0,1,2,3,4,5,6,7,8,9,10,11,12,13],[0,1,2,3,4,5,6,7,8,9,10,11,12,13,14,15,16,17,18,19],[0,1,2,3,4,5,6,7,8,9,10,11,12,13,14,15,16,17,18,19,20],[0,1,2,3,4,5,6,7,8,9,10,11,12,13,14,15,16,17,18,19,20,21]] [[],[(11,0)],[(11,0),(12,1)],[(11,0),(12,1),(13,2)],[(11,0),(12,1),(13,2),(14,3),(16,5),(17,6),(18,7),(20,9)],[(11,0),(12,1),(13,2),(14,3),(15,4),(17,6),(20,9)],[(11,0),(12,1),(13,2),(14,3),(15,4),(16,5),(20,9)],[(11,0),(12,1),(13,2),(14,3),(15,4),(16,5),(17,6),(20,9)],[(11,0),(12,1),(13,2),(14,3),(15,4),(16,5),(17,6),(18,7),(20,9)],[(11,0),(12,1),(13,2),(14,3),(15,4),(16,5),(17,6),(18,7),(19,8)],[(11,0),(12,1),(13,2),(14,3),(15,4),(16,5),(17,6),(18,7),(19,8),(20,9)],[(11,0),(12,1),(13,2),(14,3),(15,4),(16,5),(17,6),(18,7),(19,8),(20,9),(21,10)],[(11,0),(12,1),(13,2),(14,3),(15,4),(16,5),(17,6),(18,7),(19,8),(20,9),(21,10),(22,11)],[(11,0),(12,1),(13,2),(14,3),(15,4),(16,5),(17,6),(18,7),(19,8),(20,9),(21,10),(22,11),(23,12)],[(11,0),(12,1),(13,2),(14,3),(15,4),(16,5),(17,6),(18,7),(19,8),(20,9),(21,10),(22,11),(23,12),(24,13),(26,15),(27,16),(28,17),(30,19)],[(11,0),(12,1),(13,2),(14,3),(15,4),(16,5),(17,6),(18,7),(19,8),(20,9),(21,10),(22,11),(23,12),(24,13),(25,14),(27,16),(30,19)],[(11,0),(12,1),(13,2),(14,3),(15,4),(16,5),(17,6),(18,7),(19,8),(20,9),(21,10),(22,11),(23,12),(24,13),(25,14),(26,15),(30,19)],[(11,0),(12,1),(13,2),(14,3),(15,4),(16,5),(17,6),(18,7),(19,8),(20,9),(21,10),(22,11),(23,12),(24,13),(25,14),(26,15),(27,16),(30,19)],[(11,0),(12,1),(13,2),(14,3),(15,4),(16,5),(17,6),(18,7),(19,8),(20,9),(21,10),(22,11),(23,12),(24,13),(25,14),(26,15),(27,16),(28,17),(30,19)],[(11,0),(12,1),(13,2),(14,3),(15,4),(16,5),(17,6),(18,7),(19,8),(20,9),(21,10),(22,11),(23,12),(24,13),(25,14),(26,15),(27,16),(28,17),(29,18)],[(11,0),(12,1),(13,2),(14,3),(15,4),(16,5),(17,6),(18,7),(19,8),(20,9),(21,10),(22,11),(23,12),(24,13),(25,14),(26,15),(27,16),(28,17),(29,18),(30,19)],[(11,0),(12,1),(13,2),(14,3),(15,4),(16,5),(17,6),(18,7),(19,8),(20,9),(21,10),(22,11),(23,12),(24,13),(25,14),(26,15),(27,16),(28,17),(29,18),(30,19),(31,20)],[(11,0),(12,1),(13,2),(14,3),(15,4),(16,5),(17,6),(18,7),(19,8),(20,9),(21,10),(22,11),(23,12),(24,13),(25,14),(26,15),(27,16),(28,17),(29,18),(30,19),(31,20),(32,21)]] [(11,0),(12,1),(13,2),(14,3),(15,4),(16,5),(17,6),(18,7),(19,8),(20,9),(21,10),(22,11),(23,12),(24,13),(25,14),(26,15),(27,16),(28,17),(29,18),(30,19),(31,20),(32,21),(33,22)]
  [Is (.agg #[.int .i64 3,.int .i64 5,.int .u64 0,.string ⟨#[]⟩,.slice none 0 0,.slice none 0 0]),Is (.bool true),Is (.bool false),Is (.bool false),SsX 2 [⟨#[98]⟩,⟨#[97]⟩],Is (.agg #[.int .i64 3,.int .i64 1,.int .u64 0,.string ⟨#[]⟩,.slice none 0 0,.slice none 0 0]),Is (.agg #[.int .i64 1,.int .i64 0,.int .u64 0,.string ⟨#[]⟩,.slice none 0 0,.slice none 0 0]),RnX 2 [(.mk 3 1 0 ⟨#[]⟩ [] []),(.mk 1 0 0 ⟨#[]⟩ [] [])],Nd (.mk 17 0 0 ⟨#[]⟩ [⟨#[98]⟩,⟨#[97]⟩] [(.mk 3 1 0 ⟨#[]⟩ [] []),(.mk 1 0 0 ⟨#[]⟩ [] [])]),Is (.string ⟨#[97,0,98,0,2,5,4,2,1,2,0,1,0,4,4,36,1]⟩),Is (.bool true),Is (.bool false),Is (.bool false),Is (.bool false),SsX 2 [⟨#[97]⟩,⟨#[98]⟩],Is (.agg #[.int .i64 1,.int .i64 0,.int .u64 0,.string ⟨#[]⟩,.slice none 0 0,.slice none 0 0]),Is (.agg #[.int .i64 3,.int .i64 1,.int .u64 0,.string ⟨#[]⟩,.slice none 0 0,.slice none 0 0]),RnX 2 [(.mk 1 0 0 ⟨#[]⟩ [] []),(.mk 3 1 0 ⟨#[]⟩ [] [])],Nd (.mk 17 0 0 ⟨#[]⟩ [⟨#[97]⟩,⟨#[98]⟩] [(.mk 1 0 0 ⟨#[]⟩ [] []),(.mk 3 1 0 ⟨#[]⟩ [] [])]),Is (.string ⟨#[97,0,98,0,2,5,4,2,1,2,0,1,0,4,4,36,1]⟩),Is (.bool true),Is (.bool false),Is (.bool false)]
  zk Grew.trans Grew.refl (Grew.refl _).drew zk ⟨is_st,is_st,is_st,is_st,SsX.st _ _,is_st,is_st,RnX.st _ _,Nd.st _,is_st,is_st,is_st,is_st,is_st,SsX.st _ _,is_st,is_st,RnX.st _ _,Nd.st _,is_st,is_st,is_st,is_st,trivial⟩ ?_ rfl ?_
 rotate_left
 ·intro y w2 hG hF
  simp only[factsH,Is,and_true,Nat.reduceAdd] at hF
  have hlast:=hF.2.2.2.2.2.2.2.2.2.2.2.2.2.2.2.2.2.2.2.2.2.2
  clear hF
  simp only[fillL,Act.put,zq1,zq2,zq3,zq4,zq5,hlast]
  replace HG:=zh (HG.out.trans hG)
  clear hG hlast
  go_wp2_with fail
  refine (text20_any ⟨#[120]⟩ w2).mono ?_
  rintro r v1 ⟨rfl,hgc⟩
  replace HG:=zh (HG.out.trans hgc)
  clear hgc
  go_wp2_with fail
  refine (text20_any ⟨#[120]⟩ v1).mono ?_
  rintro r v2 ⟨rfl,hgc⟩
  replace HG:=zh (HG.out.trans hgc)
  clear hgc
  go_wp2_with fail
  obtain⟨g2,hs2⟩:∃g,v2.heap.size=g:=⟨_,rfl⟩
  have r1:Rn [(.mk 6 0 0 ⟨#[120]⟩ [] []),(.mk 6 0 0 ⟨#[120]⟩ [] [])] (.slice (some ⟨v2.heap.size,0,none⟩) 2 2) (v2.alloc (.cells #[.int .i64 6,.int .i64 0,.int .u64 0,.string ⟨#[120]⟩,.slice none 0 0,.slice none 0 0,.int .i64 6,.int .i64 0,.int .u64 0,.string ⟨#[120]⟩,.slice none 0 0,.slice none 0 0] 26)):=built_nodes v2 [(.mk 6 0 0 ⟨#[120]⟩ [] []),(.mk 6 0 0 ⟨#[120]⟩ [] [])] [.agg #[.int .i64 6,.int .i64 0,.int .u64 0,.string ⟨#[120]⟩,.slice none 0 0,.slice none 0 0],.agg #[.int .i64 6,.int .i64 0,.int .u64 0,.string ⟨#[120]⟩,.slice none 0 0,.slice none 0 0]] (by intro x hx;simp only[List.mem_cons,List.not_mem_nil,or_false] at hx;rcases hx with rfl | rfl<;>exact⟨_,_,_,_,_,_,_,_,_,_,rfl⟩) ⟨_,_,rfl,(leaf_nd 6 0 0 ⟨#[120]⟩ (by unfold i64ok u64ok lenok;decide) _),⟨_,_,rfl,(leaf_nd 6 0 0 ⟨#[120]⟩ (by unfold i64ok u64ok lenok;decide) _),rfl⟩⟩ (by simp)
  have hg2:=(Grew.refl v2).alloc (.cells #[.int .i64 6,.int .i64 0,.int .u64 0,.string ⟨#[120]⟩,.slice none 0 0,.slice none 0 0,.int .i64 6,.int .i64 0,.int .u64 0,.string ⟨#[120]⟩,.slice none 0 0,.slice none 0 0] 26)
  have hz2:(v2.alloc (.cells #[.int .i64 6,.int .i64 0,.int .u64 0,.string ⟨#[120]⟩,.slice none 0 0,.slice none 0 0,.int .i64 6,.int .i64 0,.int .u64 0,.string ⟨#[120]⟩,.slice none 0 0,.slice none 0 0] 26)).heap.size=v2.heap.size+1:=World.size_alloc _ _
  generalize (v2.alloc (.cells #[.int .i64 6,.int .i64 0,.int .u64 0,.string ⟨#[120]⟩,.slice none 0 0,.slice none 0 0,.int .i64 6,.int .i64 0,.int .u64 0,.string ⟨#[120]⟩,.slice none 0 0,.slice none 0 0] 26))=w2 at *
  rw[hs2] at r1 hz2
  try rw[hs2]
  replace HG:=zh (HG.out.trans hg2)
  clear hg2
  have n1:=vecK_nd 10 (by unfold i64ok;decide) r1
  refine (vec20_any _ _ _ w2).mono ?_
  rintro r v3 ⟨rfl,hgc⟩
  replace r1:=Rn.st _ _ _ _ hgc r1
  replace n1:=Nd.st _ _ _ _ hgc n1
  replace HG:=zh (HG.out.trans hgc)
  clear hgc
  go_wp2_with fail
  obtain⟨g3,hs3⟩:∃g,v3.heap.size=g:=⟨_,rfl⟩
  have hvt:=heap_alloc_new v3 (.cells #[.int .i64 10,.int .i64 0,.int .u64 0,.string ⟨#[]⟩,.slice none 0 0,.slice (some ⟨g2,0,none⟩) 2 2] 26)
  have hg3:=(Grew.refl v3).alloc (.cells #[.int .i64 10,.int .i64 0,.int .u64 0,.string ⟨#[]⟩,.slice none 0 0,.slice (some ⟨g2,0,none⟩) 2 2] 26)
  have hz3:(v3.alloc (.cells #[.int .i64 10,.int .i64 0,.int .u64 0,.string ⟨#[]⟩,.slice none 0 0,.slice (some ⟨g2,0,none⟩) 2 2] 26)).heap.size=v3.heap.size+1:=World.size_alloc _ _
  generalize (v3.alloc (.cells #[.int .i64 10,.int .i64 0,.int .u64 0,.string ⟨#[]⟩,.slice none 0 0,.slice (some ⟨g2,0,none⟩) 2 2] 26))=w3 at *
  rw[hs3] at hvt hz3
  try rw[hs3]
  replace r1:=Rn.st _ _ _ _ hg3 r1
  replace n1:=Nd.st _ _ _ _ hg3 n1
  replace HG:=zh (HG.out.trans hg3)
  clear hg3
  refine (builds20_any 0 (.mk 10 0 0 ⟨#[]⟩ [] [(.mk 6 0 0 ⟨#[120]⟩ [] []),(.mk 6 0 0 ⟨#[120]⟩ [] [])]) _ ⟨#[1,120,0,1,120,0,2,6,4,20,20,4,40,1]⟩ w3 n1 (by decide) (by decide) w20_d).mono ?_
  rintro r v4 ⟨rfl,hgc⟩
  replace r1:=Rn.st _ _ _ _ hgc r1
  replace n1:=Nd.st _ _ _ _ hgc n1
  replace hvt:=hgc.heap hvt
  replace HG:=zh (HG.out.trans hgc)
  clear hgc
  have b0:=row_cellT hvt 0 _ rfl
  have b1:=row_cellT hvt 1 _ rfl
  have b2:=row_cellT hvt 2 _ rfl
  have b3:=row_cellT hvt 3 _ rfl
  have b4:=row_cellT hvt 4 _ rfl
  have b5:=row_cellT hvt 5 _ rfl
  go_wp2_with fail
  refine (builds20_any 2 (.mk 10 0 0 ⟨#[]⟩ [] [(.mk 6 0 0 ⟨#[120]⟩ [] []),(.mk 6 0 0 ⟨#[120]⟩ [] [])]) _ ⟨#[1,120,0,2,3,4,20,20,4,40,1]⟩ v4 n1 (by decide) (by decide) w20_e).mono ?_
  rintro r v5 ⟨rfl,hgc⟩
  replace r1:=Rn.st _ _ _ _ hgc r1
  replace n1:=Nd.st _ _ _ _ hgc n1
  replace hvt:=hgc.heap hvt
  replace HG:=zh (HG.out.trans hgc)
  clear hgc
  clear b0 b1 b2 b3 b4 b5
  go_wp2_with fail
  clear hvt n1
  have hh:=Build_any 0 (.mk 0 0 0 ⟨#[]⟩ [] []) _ v5 (leaf_nd 0 0 0 ⟨#[]⟩ (by unfold i64ok u64ok lenok;decide) _) (by decide) (ok_sort (smB_sm (by decide)))
  rw[w20_z] at hh
  dsimp only at hh
  refine hh.mono ?_
  rintro r v6 ⟨vqz,rfl,ho,hgc⟩
  obtain⟨qaz,qcz,rfl,hz1,hz2,hz3⟩:=rows_form ho
  clear hz1 hz2 hz3
  replace r1:=Rn.st _ _ _ _ hgc r1
  replace HG:=zh (HG.out.trans hgc)
  clear hgc
  clear ho hh
  go_wp2_with fail
  refine (num20_any 5 v6).mono ?_
  rintro r v7 ⟨rfl,hgc⟩
  replace r1:=Rn.st _ _ _ _ hgc r1
  replace HG:=zh (HG.out.trans hgc)
  clear hgc
  go_wp2_with fail
  have hh:=Capped_any 0 2 (.mk 3 5 0 ⟨#[]⟩ [] []) _ v7 (leaf_nd 3 5 0 ⟨#[]⟩ (by unfold i64ok u64ok lenok;decide) _) (by decide) (ok_sort (smB_sm (by decide)))
  rw[w20_f] at hh
  dsimp only at hh
  refine hh.mono ?_
  rintro r v8 ⟨vqf,rfl,ho,hgc⟩
  obtain⟨qaf,qcf,rfl,hz1,hz2,hz3⟩:=rows_form ho
  clear hz1 hz2 hz3
  replace r1:=Rn.st _ _ _ _ hgc r1
  replace HG:=zh (HG.out.trans hgc)
  clear hgc
  clear ho hh
  go_wp2_with fail
  refine (num20_any 5 v8).mono ?_
  rintro r v9 ⟨rfl,hgc⟩
  replace r1:=Rn.st _ _ _ _ hgc r1
  replace HG:=zh (HG.out.trans hgc)
  clear hgc
  go_wp2_with fail
  have hh:=Capped_any 0 3 (.mk 3 5 0 ⟨#[]⟩ [] []) _ v9 (leaf_nd 3 5 0 ⟨#[]⟩ (by unfold i64ok u64ok lenok;decide) _) (by decide) (ok_sort (smB_sm (by decide)))
  rw[w20_g] at hh
  dsimp only at hh
  refine hh.mono ?_
  rintro r v10 ⟨vqg,rfl,ho,hgc⟩
  have hst:=str_of_bytes (BytesAt.of_own ho)
  obtain⟨qa,qc,rfl,hz1,hz2,hz3⟩:=rows_form ho
  clear hz1 hz2 hz3
  replace r1:=Rn.st _ _ _ _ hgc r1
  replace HG:=zh (HG.out.trans hgc)
  clear hgc
  clear ho hh
  have hst:(convert 28 9 (.slice qa 3 qc)).run Tryz.prog v10=.ok (.string ⟨#[5,4,1]⟩) v10:=hst
  have hse:=str_eq (⟨#[5,4,1]⟩:ByteArray) ⟨#[5,4,1]⟩
  rw[decide_eq_true rfl] at hse
  go_wp2
  go_ret
  exact⟨rfl,HG.out⟩
 refine⟨?_,?_⟩
 ·intro y w2 hG hD K hK
  generalize hA:fillL y _ _=A at hK⊢
  simp only[fillL,Act.put,zq1,zq2,zq3,zq4,zq5,Is] at hA
  subst hA
  refine ite_y ?_
  go_simp
  refine (num20_any 5 _).mono ?_
  rintro r w3 ⟨rfl,hg3⟩
  exact hK _ _ _ rfl hg3 rfl
 refine⟨?_,?_⟩
 ·intro y w2 hG hD K hK
  simp only[depsH,zq4,zq5,Is,and_true] at hD
  generalize hA:fillL y _ _=A at hK⊢
  simp only[fillL,Act.put,zq1,zq2,zq3,zq4,zq5,Is] at hA
  subst hA
  simp only[hD] at hK⊢
  clear hD
  refine ite_y ?_
  go_simp
  refine (builds20_any 0 (.mk 3 5 0 ⟨#[]⟩ [] []) _ ⟨#[5,4,1]⟩ w2 (leaf_nd 3 5 0 ⟨#[]⟩ (by unfold i64ok u64ok lenok;decide) _) (by decide) (by decide) w20_a).mono ?_
  rintro r w3 ⟨rfl,hg3⟩
  exact hK _ _ _ rfl hg3 rfl
 refine⟨zsh,zsh,?_⟩
 refine⟨?_,?_⟩
 ·intro y w2 hG hD K hK
  simp only[depsH,zq4,zq5,Is,and_true] at hD
  generalize hA:fillL y _ _=A at hK⊢
  simp only[fillL,Act.put,zq1,zq2,zq3,zq4,zq5,Is] at hA
  subst hA
  simp only[hD] at hK⊢
  clear hD
  refine ite_y ?_
  go_simp
  have hbb:=built_strs w2 [⟨#[98]⟩,⟨#[97]⟩] (lenoks20 _ (by decide)) (by decide)
  exact hK _ _ _ rfl ((Grew.refl _).alloc _) ⟨⟨_,rfl⟩,hbb⟩
 refine⟨?_,?_⟩
 ·intro y w2 hG hD K hK
  simp only[depsH,zq4,zq5,Is,and_true] at hD
  generalize hA:fillL y _ _=A at hK⊢
  simp only[fillL,Act.put,zq1,zq2,zq3,zq4,zq5,Is] at hA
  subst hA
  simp only[hD] at hK⊢
  clear hD
  refine ite_y ?_
  go_simp
  refine (num20_any 1 _).mono ?_
  rintro r w3 ⟨rfl,hg3⟩
  exact hK _ _ _ rfl hg3 rfl
 refine⟨?_,?_⟩
 ·intro y w2 hG hD K hK
  have da0:=hG.cell a0
  have da1:=hG.cell a1
  have da2:=hG.cell a2
  have da3:=hG.cell a3
  have da4:=hG.cell a4
  have da5:=hG.cell a5
  exact zsg
 refine⟨?_,?_⟩
 ·intro y w2 hG hD K hK
  simp only[depsH,zq4,zq5,Is,and_true] at hD
  generalize hA:fillL y _ _=A at hK⊢
  simp only[fillL,Act.put,zq1,zq2,zq3,zq4,zq5,Is] at hA
  subst hA
  simp only[hD] at hK⊢
  clear hD
  refine ite_y ?_
  go_simp
  have hbb:=built_nodes w2 [(.mk 3 1 0 ⟨#[]⟩ [] []),(.mk 1 0 0 ⟨#[]⟩ [] [])] [.agg #[.int .i64 3,.int .i64 1,.int .u64 0,.string ⟨#[]⟩,.slice none 0 0,.slice none 0 0],.agg #[.int .i64 1,.int .i64 0,.int .u64 0,.string ⟨#[]⟩,.slice none 0 0,.slice none 0 0]] (by intro x hx;simp only[List.mem_cons,List.not_mem_nil,or_false] at hx;rcases hx with rfl | rfl<;>exact⟨_,_,_,_,_,_,_,_,_,_,rfl⟩) ⟨_,_,rfl,(leaf_nd 3 1 0 ⟨#[]⟩ (by unfold i64ok u64ok lenok;decide) _),⟨_,_,rfl,(leaf_nd 1 0 0 ⟨#[]⟩ (by unfold i64ok u64ok lenok;decide) _),rfl⟩⟩ (by simp)
  exact hK _ _ _ rfl ((Grew.refl _).alloc _) ⟨⟨_,rfl⟩,hbb⟩
 refine⟨?_,?_⟩
 ·intro y w2 hG hD K hK
  simp only[depsH,zq4,zq5,Is,and_true] at hD
  have h0:=hD.1
  have h1:=hD.2.1
  have h2:=hD.2.2.1
  have h3:=hD.2.2.2.1
  have h4:=hD.2.2.2.2.1
  have h5:=hD.2.2.2.2.2.1
  have h6:=hD.2.2.2.2.2.2.1
  have h7:=hD.2.2.2.2.2.2.2
  clear hD
  generalize hA:fillL y _ _=A at hK⊢
  simp only[fillL,Act.put,zq1,zq2,zq3,zq4,zq5,Is] at hA
  subst hA
  simp only[h0,h1,h2,h3,h5,h6] at hK⊢
  clear h0 h1 h2 h3 h5 h6
  refine ite_y ?_
  obtain⟨⟨gq,eq⟩,hq⟩:=h4
  obtain⟨⟨gr,er⟩,hr⟩:=h7
  rw[eq] at hq
  rw[er] at hr
  simp only[eq,er] at hK⊢
  go_simp
  refine (table20_any _ _ _ _ _ _ _).mono ?_
  rintro r w3 ⟨rfl,hg3⟩
  exact hK _ _ _ rfl hg3 (table_nd (Ss.st _ _ _ _ hg3 hq) (Rn.st _ _ _ _ hg3 hr))
 refine⟨zsh,?_⟩
 refine⟨?_,?_⟩
 ·intro y w2 hG hD K hK
  simp only[depsH,zq4,zq5,Is,and_true] at hD
  have h0:=hD.1
  have h1:=hD.2.1
  have h2:=hD.2.2.1
  have h3:=hD.2.2.2.1
  have h4:=hD.2.2.2.2.1
  have h5:=hD.2.2.2.2.2.1
  have h6:=hD.2.2.2.2.2.2.1
  have h7:=hD.2.2.2.2.2.2.2.1
  have h8:=hD.2.2.2.2.2.2.2.2.1
  have h9:=hD.2.2.2.2.2.2.2.2.2
  clear hD
  generalize hA:fillL y _ _=A at hK⊢
  simp only[fillL,Act.put,zq1,zq2,zq3,zq4,zq5,Is] at hA
  subst hA
  simp only[h0,h1,h2,h3,h5,h6,h9] at hK⊢
  clear h0 h1 h2 h3 h5 h6 h9
  refine ite_y ?_
  go_simp
  refine (builds20_any 7 (.mk 17 0 0 ⟨#[]⟩ [⟨#[98]⟩,⟨#[97]⟩] [(.mk 3 1 0 ⟨#[]⟩ [] []),(.mk 1 0 0 ⟨#[]⟩ [] [])]) _ ⟨#[97,0,98,0,2,5,4,2,1,2,0,1,0,4,4,36,1]⟩ w2 h8 (by decide) (by decide) w20_b).mono ?_
  rintro r w3 ⟨rfl,hg3⟩
  exact hK _ _ _ rfl hg3 rfl
 refine⟨zsh,zsh,zsh,?_⟩
 refine⟨?_,?_⟩
 ·intro y w2 hG hD K hK
  simp only[depsH,zq4,zq5,Is,and_true] at hD
  have h0:=hD.1
  have h1:=hD.2.1
  have h2:=hD.2.2.1
  have h3:=hD.2.2.2.1
  have h4:=hD.2.2.2.2.1
  have h5:=hD.2.2.2.2.2.1
  have h6:=hD.2.2.2.2.2.2.1
  have h7:=hD.2.2.2.2.2.2.2.1
  have h8:=hD.2.2.2.2.2.2.2.2.1
  have h9:=hD.2.2.2.2.2.2.2.2.2.1
  have h10:=hD.2.2.2.2.2.2.2.2.2.2.1
  have h11:=hD.2.2.2.2.2.2.2.2.2.2.2.1
  have h12:=hD.2.2.2.2.2.2.2.2.2.2.2.2.1
  have h13:=hD.2.2.2.2.2.2.2.2.2.2.2.2.2
  clear hD
  generalize hA:fillL y _ _=A at hK⊢
  simp only[fillL,Act.put,zq1,zq2,zq3,zq4,zq5,Is] at hA
  subst hA
  simp only[h0,h1,h2,h3,h5,h6,h9,h10,h11,h12,h13] at hK⊢
  clear h0 h1 h2 h3 h5 h6 h9 h10 h11 h12 h13
  refine ite_y ?_
  go_simp
  have hbb:=built_strs w2 [⟨#[97]⟩,⟨#[98]⟩] (lenoks20 _ (by decide)) (by decide)
  exact hK _ _ _ rfl ((Grew.refl _).alloc _) ⟨⟨_,rfl⟩,hbb⟩
 refine⟨?_,?_⟩
 ·intro y w2 hG hD K hK
  have da0:=hG.cell a0
  have da1:=hG.cell a1
  have da2:=hG.cell a2
  have da3:=hG.cell a3
  have da4:=hG.cell a4
  have da5:=hG.cell a5
  exact zsg
 refine⟨?_,?_⟩
 ·intro y w2 hG hD K hK
  simp only[depsH,zq4,zq5,Is,and_true] at hD
  have h0:=hD.1
  have h1:=hD.2.1
  have h2:=hD.2.2.1
  have h3:=hD.2.2.2.1
  have h4:=hD.2.2.2.2.1
  have h5:=hD.2.2.2.2.2.1
  have h6:=hD.2.2.2.2.2.2.1
  have h7:=hD.2.2.2.2.2.2.2.1
  have h8:=hD.2.2.2.2.2.2.2.2.1
  have h9:=hD.2.2.2.2.2.2.2.2.2.1
  have h10:=hD.2.2.2.2.2.2.2.2.2.2.1
  have h11:=hD.2.2.2.2.2.2.2.2.2.2.2.1
  have h12:=hD.2.2.2.2.2.2.2.2.2.2.2.2.1
  have h13:=hD.2.2.2.2.2.2.2.2.2.2.2.2.2
  clear hD
  generalize hA:fillL y _ _=A at hK⊢
  simp only[fillL,Act.put,zq1,zq2,zq3,zq4,zq5,Is] at hA
  subst hA
  simp only[h0,h1,h2,h3,h5,h6,h9,h10,h11,h12,h13] at hK⊢
  clear h0 h1 h2 h3 h5 h6 h9 h10 h11 h12 h13
  refine ite_y ?_
  go_simp
  refine (num20_any 1 _).mono ?_
  rintro r w3 ⟨rfl,hg3⟩
  exact hK _ _ _ rfl hg3 rfl
 refine⟨?_,?_⟩
 ·intro y w2 hG hD K hK
  simp only[depsH,zq4,zq5,Is,and_true] at hD
  have h0:=hD.1
  have h1:=hD.2.1
  have h2:=hD.2.2.1
  have h3:=hD.2.2.2.1
  have h4:=hD.2.2.2.2.1
  have h5:=hD.2.2.2.2.2.1
  have h6:=hD.2.2.2.2.2.2.1
  have h7:=hD.2.2.2.2.2.2.2.1
  have h8:=hD.2.2.2.2.2.2.2.2.1
  have h9:=hD.2.2.2.2.2.2.2.2.2.1
  have h10:=hD.2.2.2.2.2.2.2.2.2.2.1
  have h11:=hD.2.2.2.2.2.2.2.2.2.2.2.1
  have h12:=hD.2.2.2.2.2.2.2.2.2.2.2.2.1
  have h13:=hD.2.2.2.2.2.2.2.2.2.2.2.2.2.1
  have h15:=hD.2.2.2.2.2.2.2.2.2.2.2.2.2.2.1
  have h16:=hD.2.2.2.2.2.2.2.2.2.2.2.2.2.2.2
  clear hD
  generalize hA:fillL y _ _=A at hK⊢
  simp only[fillL,Act.put,zq1,zq2,zq3,zq4,zq5,Is] at hA
  subst hA
  simp only[h0,h1,h2,h3,h5,h6,h9,h10,h11,h12,h13,h15,h16] at hK⊢
  clear h0 h1 h2 h3 h5 h6 h9 h10 h11 h12 h13 h15 h16
  refine ite_y ?_
  go_simp
  have hbb:=built_nodes w2 [(.mk 1 0 0 ⟨#[]⟩ [] []),(.mk 3 1 0 ⟨#[]⟩ [] [])] [.agg #[.int .i64 1,.int .i64 0,.int .u64 0,.string ⟨#[]⟩,.slice none 0 0,.slice none 0 0],.agg #[.int .i64 3,.int .i64 1,.int .u64 0,.string ⟨#[]⟩,.slice none 0 0,.slice none 0 0]] (by intro x hx;simp only[List.mem_cons,List.not_mem_nil,or_false] at hx;rcases hx with rfl | rfl<;>exact⟨_,_,_,_,_,_,_,_,_,_,rfl⟩) ⟨_,_,rfl,(leaf_nd 1 0 0 ⟨#[]⟩ (by unfold i64ok u64ok lenok;decide) _),⟨_,_,rfl,(leaf_nd 3 1 0 ⟨#[]⟩ (by unfold i64ok u64ok lenok;decide) _),rfl⟩⟩ (by simp)
  exact hK _ _ _ rfl ((Grew.refl _).alloc _) ⟨⟨_,rfl⟩,hbb⟩
 refine⟨?_,?_⟩
 ·intro y w2 hG hD K hK
  simp only[depsH,zq4,zq5,Is,and_true] at hD
  have h0:=hD.1
  have h1:=hD.2.1
  have h2:=hD.2.2.1
  have h3:=hD.2.2.2.1
  have h4:=hD.2.2.2.2.1
  have h5:=hD.2.2.2.2.2.1
  have h6:=hD.2.2.2.2.2.2.1
  have h7:=hD.2.2.2.2.2.2.2.1
  have h8:=hD.2.2.2.2.2.2.2.2.1
  have h9:=hD.2.2.2.2.2.2.2.2.2.1
  have h10:=hD.2.2.2.2.2.2.2.2.2.2.1
  have h11:=hD.2.2.2.2.2.2.2.2.2.2.2.1
  have h12:=hD.2.2.2.2.2.2.2.2.2.2.2.2.1
  have h13:=hD.2.2.2.2.2.2.2.2.2.2.2.2.2.1
  have h14:=hD.2.2.2.2.2.2.2.2.2.2.2.2.2.2.1
  have h15:=hD.2.2.2.2.2.2.2.2.2.2.2.2.2.2.2.1
  have h16:=hD.2.2.2.2.2.2.2.2.2.2.2.2.2.2.2.2.1
  have h17:=hD.2.2.2.2.2.2.2.2.2.2.2.2.2.2.2.2.2
  clear hD
  generalize hA:fillL y _ _=A at hK⊢
  simp only[fillL,Act.put,zq1,zq2,zq3,zq4,zq5,Is] at hA
  subst hA
  simp only[h0,h1,h2,h3,h5,h6,h9,h10,h11,h12,h13,h15,h16] at hK⊢
  clear h0 h1 h2 h3 h5 h6 h9 h10 h11 h12 h13 h15 h16
  refine ite_y ?_
  obtain⟨⟨gq,eq⟩,hq⟩:=h14
  obtain⟨⟨gr,er⟩,hr⟩:=h17
  rw[eq] at hq
  rw[er] at hr
  simp only[eq,er] at hK⊢
  go_simp
  refine (table20_any _ _ _ _ _ _ _).mono ?_
  rintro r w3 ⟨rfl,hg3⟩
  exact hK _ _ _ rfl hg3 (table_nd (Ss.st _ _ _ _ hg3 hq) (Rn.st _ _ _ _ hg3 hr))
 refine⟨zsh,?_⟩
 refine⟨?_,?_⟩
 ·intro y w2 hG hD K hK
  simp only[depsH,zq4,zq5,Is,and_true] at hD
  have h0:=hD.1
  have h1:=hD.2.1
  have h2:=hD.2.2.1
  have h3:=hD.2.2.2.1
  have h4:=hD.2.2.2.2.1
  have h5:=hD.2.2.2.2.2.1
  have h6:=hD.2.2.2.2.2.2.1
  have h7:=hD.2.2.2.2.2.2.2.1
  have h8:=hD.2.2.2.2.2.2.2.2.1
  have h9:=hD.2.2.2.2.2.2.2.2.2.1
  have h10:=hD.2.2.2.2.2.2.2.2.2.2.1
  have h11:=hD.2.2.2.2.2.2.2.2.2.2.2.1
  have h12:=hD.2.2.2.2.2.2.2.2.2.2.2.2.1
  have h13:=hD.2.2.2.2.2.2.2.2.2.2.2.2.2.1
  have h14:=hD.2.2.2.2.2.2.2.2.2.2.2.2.2.2.1
  have h15:=hD.2.2.2.2.2.2.2.2.2.2.2.2.2.2.2.1
  have h16:=hD.2.2.2.2.2.2.2.2.2.2.2.2.2.2.2.2.1
  have h17:=hD.2.2.2.2.2.2.2.2.2.2.2.2.2.2.2.2.2.1
  have h18:=hD.2.2.2.2.2.2.2.2.2.2.2.2.2.2.2.2.2.2.1
  have h19:=hD.2.2.2.2.2.2.2.2.2.2.2.2.2.2.2.2.2.2.2
  clear hD
  generalize hA:fillL y _ _=A at hK⊢
  simp only[fillL,Act.put,zq1,zq2,zq3,zq4,zq5,Is] at hA
  subst hA
  simp only[h0,h1,h2,h3,h5,h6,h9,h10,h11,h12,h13,h15,h16,h19] at hK⊢
  clear h0 h1 h2 h3 h5 h6 h9 h10 h11 h12 h13 h15 h16 h19
  refine ite_y ?_
  go_simp
  refine (builds20_any 0 (.mk 17 0 0 ⟨#[]⟩ [⟨#[97]⟩,⟨#[98]⟩] [(.mk 1 0 0 ⟨#[]⟩ [] []),(.mk 3 1 0 ⟨#[]⟩ [] [])]) _ ⟨#[97,0,98,0,2,5,4,2,1,2,0,1,0,4,4,36,1]⟩ w2 h18 (by decide) (by decide) w20_c).mono ?_
  rintro r w3 ⟨rfl,hg3⟩
  exact hK _ _ _ rfl hg3 rfl
 refine⟨zsh,zsh,?_⟩
 trivial
end Go.Proofs.YtdjoffgkndncfaaGreat
