/-
  EncodeCapped: a capacity suffices exactly if it is not less than the document's length.
-/
import Derived.Test.YtdjoffgkndncfaaGreatECappedPBX
set_option linter.unusedVariables false
set_option linter.unusedSimpArgs false
set_option maxHeartbeats 4000000
set_option maxRecDepth 100000
namespace Go.Proofs.YtdjoffgkndncfaaGreat
open Go Go.ChangeShapes Go.WideShapes Go.ChangeAt Go.RowKit Go.Joins
open Go.ChangeMaps (open_string shut_string)
open Go.Deep
open Go.Proofs.YtdjoffgkndncfaaGreat.Ft (V3 vV okV ValsAt inlineB legalB packF codeF typedF allF oneF unpackF)
theorem encodeCapped_any (t:Tr) (v:Value) (fl most:Int) (w:World) (hn:NodeAt w t v) (hmost:i64ok most):Calls Tryz.prog 4 #[v,.int .i64 fl,.int .i64 most] w fun r w'=>r=.returned (.bool true)∧Below w.heap.size w w':=by
 have HMO:=zh hmost
 clear hmost
 have HN:=zh hn
 obtain⟨k,n,u,s,a4,n4,c4,a5,n5,c5,rfl⟩:=hn.node6
 have HG1:=zh ((Grew.refl w).alloc (.cells #[.int .i64 k,.int .i64 n,.int .u64 u,.string s,.slice a4 n4 c4,.slice a5 n5 c5] 26))
 have hrow:=heap_alloc_new w (.cells #[.int .i64 k,.int .i64 n,.int .u64 u,.string s,.slice a4 n4 c4,.slice a5 n5 c5] 26)
 have g0:=row_cellT hrow 0 _ rfl
 have g1:=row_cellT hrow 1 _ rfl
 have g2:=row_cellT hrow 2 _ rfl
 have g3:=row_cellT hrow 3 _ rfl
 have g4:=row_cellT hrow 4 _ rfl
 have g5:=row_cellT hrow 5 _ rfl
 have HR1:=zh hrow
 clear hn hrow
 obtain⟨T0,hT0⟩:∃T0,cutD20 t=T0:=⟨_,rfl⟩
 have hsz:T0.size≤120:=by rw[← hT0];exact cutD20_size t
 have hsm:smT 60 T0:=by rw[← hT0];exact cutD20_sm t
 have hsm':smT 1000 T0:=by rw[← hT0];exact cutD20_sm' t
 have HZ:=zh (And.intro hsz (And.intro hsm hsm'))
 go_enter Tryz.func4,Tryz.ntmps4
 go_wp2_with fail
 generalize (w.alloc (.cells #[.int .i64 k,.int .i64 n,.int .u64 u,.string s,.slice a4 n4 c4,.slice a5 n5 c5] 26))=w1 at *
 refine (works20_any _).mono ?_
 rintro r w0 ⟨rfl,hg⟩
 have HG0:=zh (HG1.out.trans hg)
 have hr0:=hg.heap HR1.out
 clear hg g0 g1 g2 g3 g4 g5
 have g0:=row_cellT hr0 0 _ rfl
 have g1:=row_cellT hr0 1 _ rfl
 have g2:=row_cellT hr0 2 _ rfl
 have g3:=row_cellT hr0 3 _ rfl
 have g4:=row_cellT hr0 4 _ rfl
 have g5:=row_cellT hr0 5 _ rfl
 clear hr0
 go_wp2_with fail
 refine (few20_any t _ _ (HN.out.grew HG0.out)).mono ?_
 rw[hT0]
 clear hT0 hsz hsm hsm'
 rintro r w2 ⟨v2,rfl,ho,hg2⟩
 have HN2:=zh ho.node
 obtain⟨rk,rn,ru,rs,ra4,rn4,rc4,ra5,rn5,rc5,rfl⟩:=ho.node6
 have HRG:=zh (rng_node HN2.out)
 have HG2:=zh (HG0.out.trans hg2)
 clear ho hg2 g0 g1 g2 g3 g4 g5
 have HG3:=zh (HG2.out.trans ((Grew.refl w2).alloc (.cells #[.int .i64 rk,.int .i64 rn,.int .u64 ru,.string rs,.slice ra4 rn4 rc4,.slice ra5 rn5 rc5] 26)))
 have HN3:=zh (HN2.out.grew ((Grew.refl w2).alloc (.cells #[.int .i64 rk,.int .i64 rn,.int .u64 ru,.string rs,.slice ra4 rn4 rc4,.slice ra5 rn5 rc5] 26)))
 have hrow:=heap_alloc_new w2 (.cells #[.int .i64 rk,.int .i64 rn,.int .u64 ru,.string rs,.slice ra4 rn4 rc4,.slice ra5 rn5 rc5] 26)
 have r0:=row_cellT hrow 0 _ rfl
 have r1:=row_cellT hrow 1 _ rfl
 have r2:=row_cellT hrow 2 _ rfl
 have r3:=row_cellT hrow 3 _ rfl
 have r4:=row_cellT hrow 4 _ rfl
 have r5:=row_cellT hrow 5 _ rfl
 have HROW:=zh hrow
 clear hrow
 go_wp2_with fail
 generalize (w2.alloc (.cells #[.int .i64 rk,.int .i64 rn,.int .u64 ru,.string rs,.slice ra4 rn4 rc4,.slice ra5 rn5 rc5] 26))=w3 at *
 have hb:=Build_any fl T0 _ w3 HN3.out (by have:=HZ.out.1;omega) (ok_sort HZ.out.2.2)
 obtain⟨R,hR⟩:∃R,buildF 1048576 fl T0=R:=⟨_,rfl⟩
 rw[hR] at hb
 have HR:=zh hR
 obtain⟨D,E⟩:=R
 dsimp only at hb
 clear hR
 refine hb.mono ?_
 rintro r w4 ⟨v4,rfl,ho,hg4⟩
 have HG34:=zh hg4
 have HG4:=zh (HG3.out.trans hg4)
 have HD:=zh (BytesAt.of_own ho)
 obtain⟨da,dc,rfl,hz1,hz2,hz3⟩:=rows_form ho
 have hr4:=hg4.heap HROW.out
 clear hb ho hg4 hz1 hz2 hz3 r0 r1 r2 r3 r4 r5
 have HROW4:=zh hr4
 clear hr4
 by_cases hc:treeE T0=0
 ·obtain⟨b,vv,hB,he,hall⟩:=buildF_ok (fl:=fl) hc HZ.out.2.1 HRG.out HZ.out.1
  obtain⟨hED,hEE⟩:docF b vv=D∧(0:Int)=E:=by
   have h:=HR.out
   rw[he] at h
   exact⟨congrArg Prod.fst h,congrArg Prod.snd h⟩
  subst hEE
  have hdl:=hB.doc_len
  rw[hED] at hdl
  obtain⟨m,hm⟩:∃m,D.length=m:=⟨_,rfl⟩
  rw[hm] at hdl
  have hm3:3≤m∧m≤40017:=by omega
  have HALL:Hid (∀ri:Int,buildF ri fl T0=if (m:Int)≤ri then (D,0) else ([],5)):=fun ri=>by
   rw[hall,hED,hm]
   by_cases h:(m:Int)≤ri
   ·rw[if_pos h,if_pos (by unfold roomOf;omega)]
   ·rw[if_neg h,if_neg (by unfold roomOf;omega)]
  rw[hm]
  have HM:=zh hm
  clear hB he hall hED hdl hm hc
  have HM3:=zh hm3
  have b0:=Int.emod_nonneg most (show (m:Int)+1≠0 by omega)
  have b1:=Int.emod_lt_of_pos most (show (0:Int) < (m:Int)+1 by omega)
  have HBR:Hid (∀w,Calls Tryz.prog 16 #[.int .i64 most,.int .i64 ((m:Int)+1)] w fun r w'=>r=.returned (.int .i64 (most % ((m:Int)+1)))∧w'=w):=fun w=>bringL_any most ((m:Int)+1) w (by omega) (by omega)
  have hw1:IntKind.i64.wrap ((m:Int) - 1)=(m:Int) - 1:=by rw[IntKind.wrap_i64];omega
  have hw2:IntKind.i64.wrap ((m:Int)+1)=(m:Int)+1:=by rw[IntKind.wrap_i64];omega
  go_wp2_with fail
  refine (HBR.out _).mono ?_
  rintro r w5 ⟨rfl,e5⟩
  rw[e5]
  clear e5 w5
  obtain⟨bg,hbg⟩:∃bg,most % ((m:Int)+1)=bg:=⟨_,rfl⟩
  rw[hbg]
  have HBG:Hid (0≤bg∧bg≤m):=by show _∧_;rw[← hbg];omega
  clear hbg b0 b1 HBR
  have HRM:=zh (heap_alloc_new w4 (.cells #[.int .i64 m,.int .i64 ((m:Int) - 1),.int .i64 ((m:Int)+1),.int .i64 bg,.int .i64 most] 3))
  have HGA:=zh ((Grew.refl w4).alloc (.cells #[.int .i64 m,.int .i64 ((m:Int) - 1),.int .i64 ((m:Int)+1),.int .i64 bg,.int .i64 most] 3))
  go_wp2_with fail
  generalize (w4.alloc (.cells #[.int .i64 m,.int .i64 ((m:Int) - 1),.int .i64 ((m:Int)+1),.int .i64 bg,.int .i64 most] 3))=w5 at *
  have HN5:=zh (HN3.out.grew (HG34.out.trans HGA.out))
  have HG5:=zh (HG4.out.trans HGA.out)
  have HR5:=zh (HGA.out.heap HROW4.out)
  have HD5:=zh (HD.out.grew HGA.out)
  rw[HM.out] at HD5
  go_loopw [11] (fun i wr=>∃j:Nat,j≤5∧i=.int .i64 j∧Hid (Grew w5 wr)) (fun i _=>5 - (intOf i).toNat)
  case atStart=>exact⟨0,by omega,rfl,Grew.refl _⟩
  case round=>
   obtain⟨j,hj,rfl,HW⟩:=hrel
   by_cases hlt:j < 5
   ·obtain⟨ri,hri0⟩:∃ri,([(m:Int),(m:Int) - 1,(m:Int)+1,bg,most]:List Int)[j]? = some ri:=⟨_,List.getElem?_eq_getElem (by simpa using hlt)⟩
    have hrc:(#[.int .i64 m,.int .i64 ((m:Int) - 1),.int .i64 ((m:Int)+1),.int .i64 bg,.int .i64 most]:Array Value)[j]? = some (.int .i64 ri):=by
     match j,hri0 with
     | 0,h=>(cases h;rfl)
     | 1,h=>(cases h;rfl)
     | 2,h=>(cases h;rfl)
     | 3,h=>(cases h;rfl)
     | 4,h=>(cases h;rfl)
    have hce:=row_cellT HRM.out j _ hrc
    have r0:=row_cellT HR5.out 0 _ rfl
    have r1:=row_cellT HR5.out 1 _ rfl
    have r2:=row_cellT HR5.out 2 _ rfl
    have r3:=row_cellT HR5.out 3 _ rfl
    have r4:=row_cellT HR5.out 4 _ rfl
    have r5:=row_cellT HR5.out 5 _ rfl
    have hce':=HW.out.cell hce
    have s0:=HW.out.cell r0
    have s1:=HW.out.cell r1
    have s2:=HW.out.cell r2
    have s3:=HW.out.cell r3
    have s4:=HW.out.cell r4
    have s5:=HW.out.cell r5
    clear hrc hri0
    obtain⟨RR,hRR⟩:∃RR,buildF ri fl T0=RR:=⟨_,rfl⟩
    obtain⟨YD,EY⟩:=RR
    have HRR:=zh hRR
    clear hRR
    have hji:(j:Int) < 5:=by omega
    go_wp2_with fail
    refine wp_region_tablesN Grew 11 [[],[],[],[],[2,3],[2,3,4],[0,1,2,3,4,5],[0,1,2,3,4,5,6],[0,1,2,3,4,5,6,7],[0,1,2,3,4,5,6,7],[0,1,2,3,4,5,6,7,8],[0,1,2,3,4,5,6,7,8,9,10]] [[(53,1),(54,2),(55,3),(56,4),(57,5)],[(52,0),(54,2),(55,3),(56,4),(57,5)],[(52,0),(53,1),(55,3)],[(52,0),(53,1),(54,2)],[(52,0),(53,1),(54,2),(55,3)],[(52,0),(53,1),(54,2),(55,3),(56,4)],[(52,0),(53,1),(54,2),(55,3),(56,4),(57,5)],[(52,0),(53,1),(54,2),(55,3),(56,4),(57,5),(58,6)],[(52,0),(53,1),(54,2),(55,3),(56,4),(57,5),(58,6),(51,7),(60,9)],[(52,0),(53,1),(54,2),(55,3),(56,4),(57,5),(58,6),(51,7),(59,8),(12,10)],[(52,0),(53,1),(54,2),(55,3),(56,4),(57,5),(58,6),(51,7),(59,8),(60,9)],[(52,0),(53,1),(54,2),(55,3),(56,4),(57,5),(58,6),(51,7),(59,8),(60,9),(12,10)]] [(52,0),(53,1),(54,2),(55,3),(56,4),(57,5),(58,6),(51,7),(59,8),(60,9),(12,10)]
     [Is (.agg #[.int .i64 rk,.int .i64 rn,.int .u64 ru,.string rs,.slice ra4 rn4 rc4,.slice ra5 rn5 rc5]),Is (.int .i64 fl),Is (.slice (some ⟨w4.heap.size,0,none⟩) 5 5),Is (.int .i64 j),Is (.pointer (some ⟨w4.heap.size,j,none⟩)),Is (.int .i64 ri),fun v w=>∃a c,v=.tuple #[.slice a YD.length c,.int .i64 EY]∧BytesAt w (.slice a YD.length c) YD,fun v w=>∃a c,v=.tuple #[.slice a YD.length c,.int .i64 EY]∧BytesAt w (.slice a YD.length c) YD,fun v w=>∃a c,v=.slice a YD.length c∧BytesAt w (.slice a YD.length c) YD,Is (.int .i64 EY),fun v w=>∃a c,v=.slice a YD.length c∧BytesAt w (.slice a YD.length c) YD]
     zk Grew.trans Grew.refl (Grew.refl _).drew zk ⟨is_st,is_st,is_st,is_st,is_st,is_st,fun v w w' hg ⟨a,c,e,h⟩=>⟨a,c,e,h.grew hg⟩,fun v w w' hg ⟨a,c,e,h⟩=>⟨a,c,e,h.grew hg⟩,fun v w w' hg ⟨a,c,e,h⟩=>⟨a,c,e,h.grew hg⟩,is_st,fun v w w' hg ⟨a,c,e,h⟩=>⟨a,c,e,h.grew hg⟩,trivial⟩ rfl ?_ ?_
    rotate_left
    ·intro y wq hG hF
     simp only[factsH,Is,and_true,Nat.reduceAdd] at hF
     have h0:=hF.1
     have h1:=hF.2.1
     have h2:=hF.2.2.1
     have h3:=hF.2.2.2.1
     have h4:=hF.2.2.2.2.1
     have h5:=hF.2.2.2.2.2.1
     have h6:=hF.2.2.2.2.2.2.1
     have h7:=hF.2.2.2.2.2.2.2.1
     have h8:=hF.2.2.2.2.2.2.2.2.1
     have h9:=hF.2.2.2.2.2.2.2.2.2.1
     have h10:=hF.2.2.2.2.2.2.2.2.2.2
     clear hF
     simp only[fillL,Act.put,zq1,zq2,zq3,zq4,zq5,List.drop_succ_cons,List.drop_zero]
     simp only[h0,h1,h2,h3,h4,h5,h9]
     clear h0 h1 h2 h3 h4 h5 h9
     obtain⟨a6,c6,e6,b6⟩:=h6
     obtain⟨a7,c7',e7,b7⟩:=h7
     obtain⟨a8,c8,e8,b8⟩:=h8
     obtain⟨a9,c9,e9,b9⟩:=h10
     simp only[e6,e7,e8,e9]
     clear e6 e7 e8 e9 b6 b7 b8
     have HG7:=zh (HW.out.trans hG)
     have HD7:=zh (HD5.out.grew HG7.out)
     have HB7:=zh b9
     have c7:=HG7.out.cell hce
     clear b9 hG hce hce' r0 s0 r1 s1 r2 s2 r3 s3 r4 s4 r5 s5
     have hy:=HRR.out
     rw[HALL.out ri] at hy
     by_cases hri:(m:Int)≤ri
     ·rw[if_pos hri] at hy
      obtain⟨e1,e2⟩:=Prod.mk.inj hy
      subst e1 e2
      clear hy
      rw[HM.out] at HB7⊢
      have hri2:¬ri < (m:Int):=by omega
      go_wp2_with fail
      refine (eqBytes_any _ _ _ _ HD7.out HB7.out).mono ?_
      rw[decide_eq_true rfl]
      rintro r w8 ⟨rfl,rfl⟩
      go_wp2_with fail
      go_roundw
      case rel=>exact⟨j+1,by omega,by go_num,HG7.out⟩
      case measure=>simp[intOf];omega
     ·rw[if_neg hri] at hy
      obtain⟨e1,e2⟩:=Prod.mk.inj hy
      subst e1 e2
      clear hy
      have hri2:ri < (m:Int):=by omega
      go_wp2_with fail
      go_roundw
      case rel=>exact⟨j+1,by omega,by go_num,HG7.out⟩
      case measure=>simp[intOf];omega
    refine⟨?_,?_⟩
    ·intro y wq hG hD K hK
     have dr0:=hG.cell s0
     have dr1:=hG.cell s1
     have dr2:=hG.cell s2
     have dr3:=hG.cell s3
     have dr4:=hG.cell s4
     have dr5:=hG.cell s5
     simp only[fillL,Act.put,zq1,zq2,zq3,zq4,zq5,Is] at hK⊢
     refine ite_y ?_
     go_simp
     exact hK _ _ _ rfl (Grew.refl _) rfl
    refine⟨?_,?_⟩
    ·intro y wq hG hD K hK
     simp only[fillL,Act.put,zq1,zq2,zq3,zq4,zq5,Is] at hK⊢
     refine ite_y ?_
     go_simp
     exact hK _ _ _ rfl (Grew.refl _) rfl
    refine⟨?_,?_⟩
    ·intro y wq hG hD K hK
     simp only[fillL,Act.put,zq1,zq2,zq3,zq4,zq5,Is] at hK⊢
     refine ite_y ?_
     go_simp
     exact hK _ _ _ rfl (Grew.refl _) rfl
    refine⟨?_,?_⟩
    ·intro y wq hG hD K hK
     simp only[fillL,Act.put,zq1,zq2,zq3,zq4,zq5,Is] at hK⊢
     refine ite_y ?_
     go_simp
     exact hK _ _ _ rfl (Grew.refl _) rfl
    refine⟨?_,?_⟩
    ·intro y wq hG hD K hK
     simp only[depsH,zq4,zq5,Is,and_true] at hD
     have h2:=hD.1
     have h3:=hD.2
     clear hD
     simp only[fillL,Act.put,zq1,zq2,zq3,zq4,zq5,Is] at hK⊢
     simp only[h2,h3] at hK⊢
     clear h2 h3
     refine ite_y ?_
     go_simp
     exact hK _ _ _ rfl (Grew.refl _) rfl
    refine⟨?_,?_⟩
    ·intro y wq hG hD K hK
     simp only[depsH,zq4,zq5,Is,and_true] at hD
     have h2:=hD.1
     have h3:=hD.2.1
     have h4:=hD.2.2
     clear hD
     have dhce:=hG.cell hce'
     simp only[fillL,Act.put,zq1,zq2,zq3,zq4,zq5,Is] at hK⊢
     simp only[h2,h3,h4] at hK⊢
     clear h2 h3 h4
     refine ite_y ?_
     go_simp
     exact hK _ _ _ rfl (Grew.refl _) rfl
    refine⟨?_,?_⟩
    ·intro y wq hG hD K hK
     simp only[depsH,zq4,zq5,Is,and_true] at hD
     have h0:=hD.1
     have h1:=hD.2.1
     have h2:=hD.2.2.1
     have h3:=hD.2.2.2.1
     have h4:=hD.2.2.2.2.1
     have h5:=hD.2.2.2.2.2
     clear hD
     simp only[fillL,Act.put,zq1,zq2,zq3,zq4,zq5,Is] at hK⊢
     simp only[h0,h1,h2,h3,h4,h5] at hK⊢
     clear h0 h1 h2 h3 h4 h5
     refine ite_y ?_
     go_simp
     have hcp:=Capped_any fl ri T0 _ wq (HN5.out.grew (HW.out.trans hG)) (by have:=HZ.out.1;omega) (ok_sort HZ.out.2.2)
     rw[HRR.out] at hcp
     refine hcp.mono ?_
     dsimp only
     rintro r w7 ⟨v7,rfl,ho,hg⟩
     have hb:=BytesAt.of_own ho
     obtain⟨ya,yc,rfl,hz1,hz2,hz3⟩:=rows_form ho
     exact hK _ _ _ rfl hg ⟨_,_,rfl,hb⟩
    refine⟨?_,?_⟩
    ·intro y wq hG hD K hK
     simp only[depsH,zq4,zq5,Is,and_true] at hD
     have h0:=hD.1
     have h1:=hD.2.1
     have h2:=hD.2.2.1
     have h3:=hD.2.2.2.1
     have h4:=hD.2.2.2.2.1
     have h5:=hD.2.2.2.2.2.1
     have h6:=hD.2.2.2.2.2.2
     clear hD
     simp only[fillL,Act.put,zq1,zq2,zq3,zq4,zq5,Is] at hK⊢
     simp only[h0,h1,h2,h3,h4,h5] at hK⊢
     clear h0 h1 h2 h3 h4 h5
     refine ite_y ?_
     obtain⟨a,c,e,hb⟩:=h6
     simp only[e] at hK⊢
     go_simp
     exact hK _ _ _ rfl (Grew.refl _) ⟨_,_,rfl,hb⟩
    refine⟨?_,?_⟩
    ·intro y wq hG hD K hK
     simp only[depsH,zq4,zq5,Is,and_true] at hD
     have h0:=hD.1
     have h1:=hD.2.1
     have h2:=hD.2.2.1
     have h3:=hD.2.2.2.1
     have h4:=hD.2.2.2.2.1
     have h5:=hD.2.2.2.2.2.1
     have h6:=hD.2.2.2.2.2.2.1
     have h7:=hD.2.2.2.2.2.2.2
     clear hD
     simp only[fillL,Act.put,zq1,zq2,zq3,zq4,zq5,Is] at hK⊢
     simp only[h0,h1,h2,h3,h4,h5] at hK⊢
     clear h0 h1 h2 h3 h4 h5
     refine ite_y ?_
     obtain⟨a,c,e,hb⟩:=h7
     simp only[e] at hK⊢
     go_simp
     exact hK _ _ _ rfl (Grew.refl _) ⟨_,_,rfl,hb⟩
    refine⟨?_,?_⟩
    ·intro y wq hG hD K hK
     simp only[depsH,zq4,zq5,Is,and_true] at hD
     have h0:=hD.1
     have h1:=hD.2.1
     have h2:=hD.2.2.1
     have h3:=hD.2.2.2.1
     have h4:=hD.2.2.2.2.1
     have h5:=hD.2.2.2.2.2.1
     have h6:=hD.2.2.2.2.2.2.1
     have h7:=hD.2.2.2.2.2.2.2
     clear hD
     simp only[fillL,Act.put,zq1,zq2,zq3,zq4,zq5,Is] at hK⊢
     simp only[h0,h1,h2,h3,h4,h5] at hK⊢
     clear h0 h1 h2 h3 h4 h5
     refine ite_y ?_
     obtain⟨a,c,e,hb⟩:=h7
     simp only[e] at hK⊢
     go_simp
     exact hK _ _ _ rfl (Grew.refl _) rfl
    refine⟨?_,?_⟩
    ·intro y wq hG hD K hK
     simp only[depsH,zq4,zq5,Is,and_true] at hD
     have h0:=hD.1
     have h1:=hD.2.1
     have h2:=hD.2.2.1
     have h3:=hD.2.2.2.1
     have h4:=hD.2.2.2.2.1
     have h5:=hD.2.2.2.2.2.1
     have h6:=hD.2.2.2.2.2.2.1
     have h7:=hD.2.2.2.2.2.2.2.1
     have h8:=hD.2.2.2.2.2.2.2.2
     clear hD
     simp only[fillL,Act.put,zq1,zq2,zq3,zq4,zq5,Is] at hK⊢
     simp only[h0,h1,h2,h3,h4,h5] at hK⊢
     clear h0 h1 h2 h3 h4 h5
     refine ite_y ?_
     obtain⟨a,c,e,hb⟩:=h8
     simp only[e] at hK⊢
     go_simp
     exact hK _ _ _ rfl (Grew.refl _) ⟨_,_,rfl,hb⟩
    trivial
   ·have ej:j=5:=by omega
    subst ej
    go_wp2
    go_ret
    exact⟨rfl,HG5.out.trans HW.out⟩
 ·have HE:Hid (D=[]∧E=treeE T0):=by
   have h:=HR.out
   rw[buildF_no hc] at h
   exact⟨(congrArg Prod.fst h).symm,(congrArg Prod.snd h).symm⟩
  have he:(E != 0)=true:=by rw[HE.out.2];simpa using hc
  clear hc
  have r0:=row_cellT HROW4.out 0 _ rfl
  have r1:=row_cellT HROW4.out 1 _ rfl
  have r2:=row_cellT HROW4.out 2 _ rfl
  have r3:=row_cellT HROW4.out 3 _ rfl
  have r4:=row_cellT HROW4.out 4 _ rfl
  have r5:=row_cellT HROW4.out 5 _ rfl
  have hck:=tcheck_any T0 _ w4 (HN3.out.grew HG34.out) (by have:=HZ.out.1;omega)
  rw[← HE.out.2] at hck
  have HCK:=zh hck
  clear hck
  go_wp2_with fail
  refine HCK.out.mono ?_
  rintro r w5 ⟨rfl,hg⟩
  have HG5:=zh (HG4.out.trans hg)
  clear hg
  go_wp2
  go_ret
  exact⟨rfl,HG5.out⟩
theorem encodeCapped_row {H:Type} (enc:TypeId × Value→H) (W:World) (base:Nat) (v0:Value) (d0:DataW H) (p0:List MemPlace) (o0:Value.okWide Tryz.prog W .any base 26 v0) (k0:DataW.Trod enc Tryz.prog W 0 (fun _=>true) true 26 v0 d0 p0) (v1:Value) (d1:DataW H) (p1:List MemPlace) (o1:Value.okWide Tryz.prog W .any base 3 v1) (k1:DataW.Trod enc Tryz.prog W 0 (fun _=>true) true 3 v1 d1 p1) (v2:Value) (d2:DataW H) (p2:List MemPlace) (o2:Value.okWide Tryz.prog W .any base 3 v2) (k2:DataW.Trod enc Tryz.prog W 0 (fun _=>true) true 3 v2 d2 p2) :
 Calls Tryz.prog 4 #[v0,v1,v2] W fun e w'=>e=.returned (.bool true)∧Below W.heap.size W w':=by
 obtain⟨T,hT⟩:=open_node o0 k0
 obtain⟨fl,rfl,_,_,_⟩:=open_int Tryz.underlying3 o1 k1
 obtain⟨mo,rfl,_,_,hmo⟩:=open_int Tryz.underlying3 o2 k2
 exact encodeCapped_any T _ fl mo W hT (i64_of hmo)
theorem encodeCapped_own:ownKnob Tryz.prog.godebug=none:=by kernel_rfl
theorem encodeCapped_laidOut:laidOutB Tryz.prog=true:=by kernel_rfl
theorem encodeCapped_lifted (os:Os) (started:os.Started) (H:Type) (enc:TypeId × Value→H) :
 ReturnsInHanded {} Tryz.checked os 4 .any (Rows.encodeCappedSpec.pre6 enc Tryz.prog Tryz.f4 Rows.encodeCappedRow.domain false) (Rows.encodeCappedSpec.post enc Tryz.prog Tryz.f4 false true false false):=by
 refine returnsInHanded_of_change (C:=Tryz.checked) encodeCapped_own started zk Tryz.func4
  (ChangeSpec.witness6 (enc:=enc) (C:=Tryz.checked) false ⟨#[],#[.agg #[.int .i64 0,.int .i64 0,.int .u64 0,.string ⟨#[]⟩,.slice none 0 0,.slice none 0 0],.int .i64 0,.int .i64 0],[]⟩ 8 zk zk zk zk) ?_
 intro W base args ds gs before hval0 hW hcnd _
 have hval:∀(j:Nat) t v,Tryz.f4.params[j]? = some t→args[j]? = some v→Value.okWide Tryz.prog W .any base t v:=hval0
 have hW':=hW
 obtain⟨p,q,hA0,hV,rfl,hfz,hnd⟩:=hW
 have hA:DataW.TrodAll enc Tryz.prog W 0 (fun _=>true) true Tryz.f4.params.toList args.toList ds p:=hA0
 rw[Tryz.params4] at hA hval
 obtain⟨v0,vs0,d0,ds0,p0,q0,hargs,rfl,rfl,h0,r0⟩:=trodAll_cons hA
 obtain⟨v1,vs1,d1,ds1,p1,q1,rfl,rfl,rfl,h1,r1⟩:=trodAll_cons r0
 obtain⟨v2,vs2,d2,ds2,p2,q2,rfl,rfl,rfl,h2,r2⟩:=trodAll_cons r1
 obtain⟨rfl,rfl,rfl⟩:=trodAll_nil r2
 obtain rfl:args=#[v0,v1,v2]:=by cases args;simp_all
 obtain⟨rfl,rfl⟩:=trodVars_none hV
 have lt0:∀x∈p0,x.block < W.heap.size:=by obtain⟨m,hm⟩:=h0;exact DataW.trod_lt m _ _ _ hm
 have lt1:∀x∈p1,x.block < W.heap.size:=by obtain⟨m,hm⟩:=h1;exact DataW.trod_lt m _ _ _ hm
 have lt2:∀x∈p2,x.block < W.heap.size:=by obtain⟨m,hm⟩:=h2;exact DataW.trod_lt m _ _ _ hm
 have hw:=encodeCapped_row enc W base v0 d0 p0 (hval 0 26 v0 rfl rfl) h0 v1 d1 p1 (hval 1 3 v1 rfl rfl) h1 v2 d2 p2 (hval 2 3 v2 rfl rfl) h2
 clear hA0 hval0
 refine hw.mono fun e W' ⟨he,bel⟩=>?_
 subst he
 exact⟨_,rfl,_,_,_,[],_,[],hW',trodAll_mk1 (shut_bool Tryz.underlying4 _),(trodAll_cons_mk (Below.trod encodeCapped_laidOut zk (of_decide_eq_true zk) h0 bel lt0) (trodAll_cons_mk (Below.trod encodeCapped_laidOut zk (of_decide_eq_true zk) h1 bel lt1) (trodAll_cons_mk (Below.trod encodeCapped_laidOut zk (of_decide_eq_true zk) h2 bel lt2) trodAll_mk0))),rfl,Below.frame bel _,fun h=>by cases h⟩
/-- The statement. -/
theorem encodeCapped_holds:Rows.EncodeCappedSaid:=
 OpenClaim.holds_of_wide 4 Tryz.f4 rfl rfl rfl rfl rfl rfl rfl ⟨rfl,rfl,rfl,rfl,rfl⟩ rfl rfl rfl rfl rfl zk Tryz.func4 zk
  (of_decide_eq_true zk) (by unfold Func.isWrapper;first | (rw[if_pos (by decide +kernel)];kernel_rfl) | (rw[if_neg (by decide +kernel)];exact⟨rfl,rfl⟩))
  (fun os started H enc _=>encodeCapped_lifted os started H enc)
end Go.Proofs.YtdjoffgkndncfaaGreat
