/-
  NormalKnown: every kind; extreme numbers.
-/
import Derived.Test.YtfbeepkogcmlmaaNormalKnownPAW
set_option linter.unusedVariables false
set_option linter.unusedSimpArgs false
set_option maxHeartbeats 32000000
set_option maxRecDepth 100000
namespace Go.Proofs.Ytfbeepkogcmlmaa
open Go Go.ChangeShapes Go.WideShapes Go.ChangeAt Go.RowKit Go.Joins
open Go.ChangeMaps (open_string shut_string)
open Go.Deep
theorem lu_built (u nn:Int) (w:World) (hn:IntKind.i64.wrap u=nn) (h0:0≤u) (h1:u≤18446744073709551615) :
 Rn (LU u) (.slice (some ⟨w.heap.size,0,none⟩) 4 4) (w.alloc (.cells #[.int .i64 4,.int .i64 0,.int .u64 u,.string ⟨#[]⟩,.slice none 0 0,.slice none 0 0,.int .i64 9,.int .i64 0,.int .u64 u,.string ⟨#[]⟩,.slice none 0 0,.slice none 0 0,.int .i64 3,.int .i64 nn,.int .u64 0,.string ⟨#[]⟩,.slice none 0 0,.slice none 0 0,.int .i64 8,.int .i64 nn,.int .u64 0,.string ⟨#[]⟩,.slice none 0 0,.slice none 0 0] 26)):=by
 have hb:jQ nn:=by rw[← hn,IntKind.wrap_i64];unfold jQ;omega
 have hu:j9 u:=⟨h0,h1⟩
 unfold LU
 rw[hn]
 refine zC w _ [.agg #[.int .i64 4,.int .i64 0,.int .u64 u,.string ⟨#[]⟩,.slice none 0 0,.slice none 0 0],.agg #[.int .i64 9,.int .i64 0,.int .u64 u,.string ⟨#[]⟩,.slice none 0 0,.slice none 0 0],.agg #[.int .i64 3,.int .i64 nn,.int .u64 0,.string ⟨#[]⟩,.slice none 0 0,.slice none 0 0],.agg #[.int .i64 8,.int .i64 nn,.int .u64 0,.string ⟨#[]⟩,.slice none 0 0,.slice none 0 0]] (by intro x hx;simp only[List.mem_cons,List.not_mem_nil,or_false] at hx;rcases hx with rfl | rfl | rfl | rfl<;>exact⟨_,_,_,_,_,_,_,_,_,_,rfl⟩) ?_ (by simp)
 simp only[k4]
 exact⟨_,_,rfl,kG _ _ _ _ ⟨by unfold jQ;decide,by unfold jQ;decide,hu,by unfold jI;decide⟩ _,_,_,rfl,kG _ _ _ _ ⟨by unfold jQ;decide,by unfold jQ;decide,hu,by unfold jI;decide⟩ _,_,_,rfl,kG _ _ _ _ ⟨by unfold jQ;decide,hb,by unfold j9;decide,by unfold jI;decide⟩ _,_,_,rfl,kG _ _ _ _ ⟨by unfold jQ;decide,hb,by unfold j9;decide,by unfold jI;decide⟩ _,rfl⟩
theorem lu_small {u:Int} {x:Tr} (h:x∈LU u):x.size≤1099511627776:=by
 have h1:=(vH h).1
 rw[check_val] at h1
 omega
theorem normalKnown_any (w:World):Calls Try.prog 6 #[] w fun r w'=>r=.returned (.bool true)∧jC w w':=by
 have jP:=heap_alloc_new w (.cells #[.int .u64 0,.int .u64 1,.int .u64 127,.int .u64 128,.int .u64 2147483647,.int .u64 9223372036854775807,.int .u64 9223372036854775808,.int .u64 18446744073709551615] 22)
 have hg0:=(jC.refl w).alloc (.cells #[.int .u64 0,.int .u64 1,.int .u64 127,.int .u64 128,.int .u64 2147483647,.int .u64 9223372036854775807,.int .u64 9223372036854775808,.int .u64 18446744073709551615] 22)
 go_enter Try.func6,Try.ntmps6
 go_wp2_with fail
 generalize (w.alloc (.cells #[.int .u64 0,.int .u64 1,.int .u64 127,.int .u64 128,.int .u64 2147483647,.int .u64 9223372036854775807,.int .u64 9223372036854775808,.int .u64 18446744073709551615] 22))=w1 at *
 generalize w.heap.size=g0 at *
 have HG0:=zh hg0
 have kJ:=zh jP
 clear hg0 jP
 go_loopw [2] (fun iv wr=>∃i:Nat,i≤8∧iv=.int .i64 i∧Hid (jC w1 wr)) (fun iv _=>8 - (intOf iv).toNat)
 case atStart=>exact⟨0,by omega,rfl,jC.refl _⟩
 case round=>
  generalize wr=w2 at *
  obtain⟨i,hi,rfl,HI⟩:=hrel
  by_cases hi8:i < 8
  ·have hi8i:(i:Int) < 8:=by omega
   obtain⟨u,hu⟩:∃u,endsL[i]? = some u:=⟨_,List.getElem?_eq_getElem (show i < 8 by omega)⟩
   have HU:=zh (ends_ok u (List.mem_of_getElem? hu))
   have HCE:Hid (∀W,jC w1 W→W.cell? ⟨g0,i,none⟩=some (.int .u64 u)):=fun W hg=>jA (hg.heap kJ.out) i _ (by
    have e:(#[.int .u64 0,.int .u64 1,.int .u64 127,.int .u64 128,.int .u64 2147483647,.int .u64 9223372036854775807,.int .u64 9223372036854775808,.int .u64 18446744073709551615]:Array Value)=(endsL.map (Value.int .u64)).toArray:=rfl
    rw[e,List.getElem?_toArray,List.getElem?_map,hu];rfl)
   have ce:=HCE.out w2 HI.out
   obtain⟨nn,hnn⟩:∃nn,IntKind.i64.wrap u=nn:=⟨_,rfl⟩
   clear hu
   go_upto_region 5 with fail
   refine kN jC [[],[],[0,1],[2],[3],[],[],[5,6],[7],[8],[],[],[10,11],[12],[13],[14],[],[],[16,17],[18],[19],[20],[4,9,15,21],[22]] [[(15,1),(17,3),(18,4),(19,5),(20,6),(21,7),(22,8),(23,9),(24,10),(25,11),(26,12),(27,13),(28,14),(29,15),(30,16),(31,17),(32,18),(33,19),(34,20),(35,21),(36,22),(3,23)],[(14,0),(17,3),(18,4),(19,5),(20,6),(21,7),(22,8),(23,9),(24,10),(25,11),(26,12),(27,13),(28,14),(29,15),(30,16),(31,17),(32,18),(33,19),(34,20),(35,21),(36,22),(3,23)],[(14,0),(15,1),(18,4),(19,5),(20,6),(21,7),(22,8),(23,9),(24,10),(25,11),(26,12),(27,13),(28,14),(29,15),(30,16),(31,17),(32,18),(33,19),(34,20),(35,21),(36,22),(3,23)],[(14,0),(15,1),(16,2),(19,5),(20,6),(21,7),(22,8),(23,9),(24,10),(25,11),(26,12),(27,13),(28,14),(29,15),(30,16),(31,17),(32,18),(33,19),(34,20),(35,21),(36,22),(3,23)],[(14,0),(15,1),(16,2),(17,3),(19,5),(20,6),(21,7),(22,8),(23,9),(24,10),(25,11),(26,12),(27,13),(28,14),(29,15),(30,16),(31,17),(32,18),(33,19),(34,20),(35,21),(3,23)],[(14,0),(15,1),(16,2),(17,3),(18,4),(20,6),(22,8),(23,9),(24,10),(25,11),(26,12),(27,13),(28,14),(29,15),(30,16),(31,17),(32,18),(33,19),(34,20),(35,21),(36,22),(3,23)],[(14,0),(15,1),(16,2),(17,3),(18,4),(19,5),(22,8),(23,9),(24,10),(25,11),(26,12),(27,13),(28,14),(29,15),(30,16),(31,17),(32,18),(33,19),(34,20),(35,21),(36,22),(3,23)],[(14,0),(15,1),(16,2),(17,3),(18,4),(19,5),(20,6),(23,9),(24,10),(25,11),(26,12),(27,13),(28,14),(29,15),(30,16),(31,17),(32,18),(33,19),(34,20),(35,21),(36,22),(3,23)],[(14,0),(15,1),(16,2),(17,3),(18,4),(19,5),(20,6),(21,7),(24,10),(25,11),(26,12),(27,13),(28,14),(29,15),(30,16),(31,17),(32,18),(33,19),(34,20),(35,21),(36,22),(3,23)],[(14,0),(15,1),(16,2),(17,3),(18,4),(19,5),(20,6),(21,7),(22,8),(24,10),(25,11),(26,12),(27,13),(28,14),(29,15),(30,16),(31,17),(32,18),(33,19),(34,20),(35,21),(3,23)],[(14,0),(15,1),(16,2),(17,3),(18,4),(19,5),(20,6),(21,7),(22,8),(23,9),(25,11),(27,13),(28,14),(29,15),(30,16),(31,17),(32,18),(33,19),(34,20),(35,21),(36,22),(3,23)],[(14,0),(15,1),(16,2),(17,3),(18,4),(19,5),(20,6),(21,7),(22,8),(23,9),(24,10),(27,13),(28,14),(29,15),(30,16),(31,17),(32,18),(33,19),(34,20),(35,21),(36,22),(3,23)],[(14,0),(15,1),(16,2),(17,3),(18,4),(19,5),(20,6),(21,7),(22,8),(23,9),(24,10),(25,11),(28,14),(29,15),(30,16),(31,17),(32,18),(33,19),(34,20),(35,21),(36,22),(3,23)],[(14,0),(15,1),(16,2),(17,3),(18,4),(19,5),(20,6),(21,7),(22,8),(23,9),(24,10),(25,11),(26,12),(29,15),(30,16),(31,17),(32,18),(33,19),(34,20),(35,21),(36,22),(3,23)],[(14,0),(15,1),(16,2),(17,3),(18,4),(19,5),(20,6),(21,7),(22,8),(23,9),(24,10),(25,11),(26,12),(27,13),(30,16),(31,17),(32,18),(33,19),(34,20),(35,21),(36,22),(3,23)],[(14,0),(15,1),(16,2),(17,3),(18,4),(19,5),(20,6),(21,7),(22,8),(23,9),(24,10),(25,11),(26,12),(27,13),(28,14),(30,16),(31,17),(32,18),(33,19),(34,20),(35,21),(3,23)],[(14,0),(15,1),(16,2),(17,3),(18,4),(19,5),(20,6),(21,7),(22,8),(23,9),(24,10),(25,11),(26,12),(27,13),(28,14),(29,15),(31,17),(33,19),(34,20),(35,21),(36,22),(3,23)],[(14,0),(15,1),(16,2),(17,3),(18,4),(19,5),(20,6),(21,7),(22,8),(23,9),(24,10),(25,11),(26,12),(27,13),(28,14),(29,15),(30,16),(33,19),(34,20),(35,21),(36,22),(3,23)],[(14,0),(15,1),(16,2),(17,3),(18,4),(19,5),(20,6),(21,7),(22,8),(23,9),(24,10),(25,11),(26,12),(27,13),(28,14),(29,15),(30,16),(31,17),(34,20),(35,21),(36,22),(3,23)],[(14,0),(15,1),(16,2),(17,3),(18,4),(19,5),(20,6),(21,7),(22,8),(23,9),(24,10),(25,11),(26,12),(27,13),(28,14),(29,15),(30,16),(31,17),(32,18),(35,21),(36,22),(3,23)],[(14,0),(15,1),(16,2),(17,3),(18,4),(19,5),(20,6),(21,7),(22,8),(23,9),(24,10),(25,11),(26,12),(27,13),(28,14),(29,15),(30,16),(31,17),(32,18),(33,19),(36,22),(3,23)],[(14,0),(15,1),(16,2),(17,3),(18,4),(19,5),(20,6),(21,7),(22,8),(23,9),(24,10),(25,11),(26,12),(27,13),(28,14),(29,15),(30,16),(31,17),(32,18),(33,19),(34,20),(3,23)],[(14,0),(15,1),(16,2),(17,3),(18,4),(19,5),(20,6),(21,7),(22,8),(23,9),(24,10),(25,11),(26,12),(27,13),(28,14),(29,15),(30,16),(31,17),(32,18),(33,19),(34,20),(35,21)],[(14,0),(15,1),(16,2),(17,3),(18,4),(19,5),(20,6),(21,7),(22,8),(23,9),(24,10),(25,11),(26,12),(27,13),(28,14),(29,15),(30,16),(31,17),(32,18),(33,19),(34,20),(35,21),(36,22)]] [(14,0),(15,1),(16,2),(17,3),(18,4),(19,5),(20,6),(21,7),(22,8),(23,9),(24,10),(25,11),(26,12),(27,13),(28,14),(29,15),(30,16),(31,17),(32,18),(33,19),(34,20),(35,21),(36,22),(3,23)]
    [Is (.slice (some ⟨g0,0,none⟩) 8 8),Is (.int .i64 (i:Int)),Is (.pointer (some ⟨g0,i,none⟩)),Is (.int .u64 u),Is (.agg #[.int .i64 4,.int .i64 0,.int .u64 u,.string ⟨#[]⟩,.slice none 0 0,.slice none 0 0]),Is (.slice (some ⟨g0,0,none⟩) 8 8),Is (.int .i64 (i:Int)),Is (.pointer (some ⟨g0,i,none⟩)),Is (.int .u64 u),Is (.agg #[.int .i64 9,.int .i64 0,.int .u64 u,.string ⟨#[]⟩,.slice none 0 0,.slice none 0 0]),Is (.slice (some ⟨g0,0,none⟩) 8 8),Is (.int .i64 (i:Int)),Is (.pointer (some ⟨g0,i,none⟩)),Is (.int .u64 u),Is (.int .i64 nn),Is (.agg #[.int .i64 3,.int .i64 nn,.int .u64 0,.string ⟨#[]⟩,.slice none 0 0,.slice none 0 0]),Is (.slice (some ⟨g0,0,none⟩) 8 8),Is (.int .i64 (i:Int)),Is (.pointer (some ⟨g0,i,none⟩)),Is (.int .u64 u),Is (.int .i64 nn),Is (.agg #[.int .i64 8,.int .i64 nn,.int .u64 0,.string ⟨#[]⟩,.slice none 0 0,.slice none 0 0]),RnX 4 (LU u),RnX 4 (LU u)]
    zk jC.trans jC.refl (jC.refl _).drew zk ⟨jG,jG,jG,jG,jG,jG,jG,jG,jG,jG,jG,jG,jG,jG,jG,jG,jG,jG,jG,jG,jG,jG,RnX.st _ _,RnX.st _ _,trivial⟩ ?_ rfl ?_
   rotate_left
   ·intro y wz hG hF
    simp only[zH,Is,and_true,Nat.reduceAdd] at hF
    have hlast:=hF.2.2.2.2.2.2.2.2.2.2.2.2.2.2.2.2.2.2.2.2.2.2.2
    clear hF
    simp only[jD,Act.put,zq1,zq2,zq3,zq4,zq5,hlast]
    obtain⟨⟨g3,e3⟩,hrn⟩:=hlast
    rw[e3] at hrn⊢
    obtain⟨vs,kS,kP⟩:=hrn
    have j8:=zh kS
    have HKIDS:=zh kP
    have HG5:=zh (HI.out.trans hG)
    clear hG kS kP e3 ce
    go_wp2_with fail
    go_loopw [4] (fun kv wr=>∃k:Nat,k≤4∧kv=.int .i64 k∧Hid (jC wz wr)) (fun kv _=>4 - (intOf kv).toNat)
    case atStart=>exact⟨0,by omega,rfl,jC.refl _⟩
    case round=>
     generalize wr=wk at *
     obtain⟨k,hk,rfl,HQ⟩:=hrel
     by_cases hk4:k < 4
     ·have hk4i:(k:Int) < 4:=by omega
      go_wp2_with fail
      go_loopw [5] (fun nv wr=>∃n:Nat,n≤4∧nv=.int .i64 n∧Hid (jC wz wr)) (fun nv _=>4 - (intOf nv).toNat)
      case atStart=>exact⟨0,by omega,rfl,HQ.out⟩
      case round=>
       generalize wr=wn at *
       obtain⟨n,hn,rfl,HJ⟩:=hrel
       by_cases hn4:n < 4
       ·have hn4i:(n:Int) < 4:=by omega
        obtain⟨tx,htx⟩:∃x,(LU u)[k]? = some x:=⟨_,List.getElem?_eq_getElem (show k < 4 by omega)⟩
        obtain⟨vx,hvvx,hnvx⟩:=HKIDS.out.get htx
        obtain⟨xk,xn,xu,xs,xa4,xn4,xc4,xa5,xn5,xc5,rfl⟩:=hnvx.node6
        have HNX:Hid (jL wn tx (.agg #[.int .i64 xk,.int .i64 xn,.int .u64 xu,.string xs,.slice xa4 xn4 xc4,.slice xa5 xn5 xc5])):=hnvx.grew HJ.out
        obtain⟨avx,cvx',evx,_,_,_,hrwvx⟩:=j8.out
        injection evx with e1 e2 e3
        subst e1
        clear e2 e3
        obtain⟨bvx,ovx,evx,hcvx⟩:=hrwvx k _ hvvx
        cases evx
        obtain⟨z0,z1,z2,z3,z4,z5,e6,r0,r1,r2,r3,r4,r5⟩:=hcvx.grew HJ.out
        injection e6 with e6
        simp only[Array.mk.injEq,List.cons.injEq,and_true] at e6
        obtain⟨rfl,rfl,rfl,rfl,rfl,rfl⟩:=e6
        rw[Nat.zero_add] at r0 r1 r2 r3 r4 r5
        have x0:=r0
        have x1:=r1
        have x2:=r2
        have x3:=r3
        have x4:=r4
        have x5:=r5
        clear r0 r1 r2 r3 r4 r5 hcvx hrwvx hnvx hvvx
        obtain⟨ty,hty⟩:∃x,(LU u)[n]? = some x:=⟨_,List.getElem?_eq_getElem (show n < 4 by omega)⟩
        obtain⟨vy,hvvy,hnvy⟩:=HKIDS.out.get hty
        obtain⟨yk,yn,yu,ys,ya4,yn4,yc4,ya5,yn5,yc5,rfl⟩:=hnvy.node6
        have HNY:Hid (jL wn ty (.agg #[.int .i64 yk,.int .i64 yn,.int .u64 yu,.string ys,.slice ya4 yn4 yc4,.slice ya5 yn5 yc5])):=hnvy.grew HJ.out
        obtain⟨avy,cvy',evy,_,_,_,hrwvy⟩:=j8.out
        injection evy with e1 e2 e3
        subst e1
        clear e2 e3
        obtain⟨bvy,ovy,evy,hcvy⟩:=hrwvy n _ hvvy
        cases evy
        obtain⟨z0,z1,z2,z3,z4,z5,e6,r0,r1,r2,r3,r4,r5⟩:=hcvy.grew HJ.out
        injection e6 with e6
        simp only[Array.mk.injEq,List.cons.injEq,and_true] at e6
        obtain⟨rfl,rfl,rfl,rfl,rfl,rfl⟩:=e6
        rw[Nat.zero_add] at r0 r1 r2 r3 r4 r5
        have y0:=r0
        have y1:=r1
        have y2:=r2
        have y3:=r3
        have y4:=r4
        have y5:=r5
        clear r0 r1 r2 r3 r4 r5 hcvy hrwvy hnvy hvvy
        have ce:=HCE.out wn (HG5.out.trans HJ.out)
        have HZX:=zh (lu_small (List.mem_of_getElem? htx))
        have HZY:=zh (lu_small (List.mem_of_getElem? hty))
        have hal:=bV HU.out.1 HU.out.2 htx hty
        obtain⟨qq,hqq⟩:∃qq:Bool,(((k / 2:Nat):Int) == ((n / 2:Nat):Int))=qq:=⟨_,rfl⟩
        have hqi:qq=true↔k / 2=n / 2:=by rw[← hqq,beq_iff_eq];omega
        obtain⟨hv,hhv⟩:∃hv:Bool,(qq || decide (u < 9223372036854775808))=hv:=⟨_,rfl⟩
        have hhi:hv=true↔(k / 2=n / 2∨u < 9223372036854775808):=by rw[← hhv,Bool.or_eq_true,hqi,decide_eq_true_eq]
        have HHV:Hid (∀b:Bool,(b=true↔qM tx ty)→b=hv):=fun b hb=>Bool.eq_iff_iff.2 ((hb.trans hal).trans hhi.symm)
        have HHQ:Hid (hv=(qq || decide (u < 9223372036854775808))):=hhv.symm
        obtain⟨ka,hka⟩:∃ka:Int,(((k / 2:Nat)):Int)=ka:=⟨_,rfl⟩
        obtain⟨na,hna⟩:∃na:Int,(((n / 2:Nat)):Int)=na:=⟨_,rfl⟩
        rw[hka,hna] at hqq
        have htk:(k:Int).tdiv 2=ka:=by rw[← hka,Int.tdiv_eq_ediv_of_nonneg (by omega)];omega
        have htn:(n:Int).tdiv 2=na:=by rw[← hna,Int.tdiv_eq_ediv_of_nonneg (by omega)];omega
        have htk2:(k:Int) / 2=ka:=by rw[← hka];omega
        have htn2:(n:Int) / 2=na:=by rw[← hna];omega
        have hwka:IntKind.i64.wrap ka=ka:=by rw[IntKind.wrap_i64];omega
        have hwna:IntKind.i64.wrap na=na:=by rw[IntKind.wrap_i64];omega
        clear hal hqi hhi hhv htx hty
        go_upto_region 12 with fail
        refine kN jC [[],[],[0,1],[2],[],[],[4,5],[6],[3,7],[8],[9],[10],[10],[10,11,12],[10,13],[10],[10],[10,15,16],[10,17],[10,14,18],[10],[10,20],[10],[10,22],[10,21,23],[10,24],[25],[25],[25,26,27],[25,28],[25,29],[10,25,30],[10,19,31],[10,32]] [[(50,1),(52,3),(53,4),(54,5),(55,6),(56,7),(57,8),(58,9),(59,10),(60,11),(61,12),(62,13),(63,14),(64,15),(65,16),(66,17),(67,18),(68,19),(69,20),(70,21),(71,22),(72,23),(73,24),(74,25),(75,26),(76,27),(77,28),(78,29),(79,30),(80,31),(81,32),(82,33)],[(49,0),(52,3),(53,4),(54,5),(55,6),(56,7),(57,8),(58,9),(59,10),(60,11),(61,12),(62,13),(63,14),(64,15),(65,16),(66,17),(67,18),(68,19),(69,20),(70,21),(71,22),(72,23),(73,24),(74,25),(75,26),(76,27),(77,28),(78,29),(79,30),(80,31),(81,32),(82,33)],[(49,0),(50,1),(53,4),(54,5),(55,6),(56,7),(57,8),(58,9),(59,10),(60,11),(61,12),(62,13),(63,14),(64,15),(65,16),(66,17),(67,18),(68,19),(69,20),(70,21),(71,22),(72,23),(73,24),(74,25),(75,26),(76,27),(77,28),(78,29),(79,30),(80,31),(81,32),(82,33)],[(49,0),(50,1),(51,2),(53,4),(54,5),(55,6),(56,7),(58,9),(59,10),(60,11),(61,12),(62,13),(63,14),(64,15),(65,16),(66,17),(67,18),(68,19),(69,20),(70,21),(71,22),(72,23),(73,24),(74,25),(75,26),(76,27),(77,28),(78,29),(79,30),(80,31),(81,32),(82,33)],[(49,0),(50,1),(51,2),(52,3),(54,5),(56,7),(57,8),(58,9),(59,10),(60,11),(61,12),(62,13),(63,14),(64,15),(65,16),(66,17),(67,18),(68,19),(69,20),(70,21),(71,22),(72,23),(73,24),(74,25),(75,26),(76,27),(77,28),(78,29),(79,30),(80,31),(81,32),(82,33)],[(49,0),(50,1),(51,2),(52,3),(53,4),(56,7),(57,8),(58,9),(59,10),(60,11),(61,12),(62,13),(63,14),(64,15),(65,16),(66,17),(67,18),(68,19),(69,20),(70,21),(71,22),(72,23),(73,24),(74,25),(75,26),(76,27),(77,28),(78,29),(79,30),(80,31),(81,32),(82,33)],[(49,0),(50,1),(51,2),(52,3),(53,4),(54,5),(57,8),(58,9),(59,10),(60,11),(61,12),(62,13),(63,14),(64,15),(65,16),(66,17),(67,18),(68,19),(69,20),(70,21),(71,22),(72,23),(73,24),(74,25),(75,26),(76,27),(77,28),(78,29),(79,30),(80,31),(81,32),(82,33)],[(49,0),(50,1),(51,2),(52,3),(53,4),(54,5),(55,6),(58,9),(59,10),(60,11),(61,12),(62,13),(63,14),(64,15),(65,16),(66,17),(67,18),(68,19),(69,20),(70,21),(71,22),(72,23),(73,24),(74,25),(75,26),(76,27),(77,28),(78,29),(79,30),(80,31),(81,32),(82,33)],[(49,0),(50,1),(51,2),(52,3),(53,4),(54,5),(55,6),(56,7),(59,10),(60,11),(61,12),(62,13),(63,14),(64,15),(65,16),(66,17),(67,18),(68,19),(69,20),(70,21),(71,22),(72,23),(73,24),(74,25),(75,26),(76,27),(77,28),(78,29),(79,30),(80,31),(81,32),(82,33)],[(49,0),(50,1),(51,2),(52,3),(53,4),(54,5),(55,6),(56,7),(57,8),(60,11),(61,12),(62,13),(63,14),(64,15),(65,16),(66,17),(67,18),(68,19),(69,20),(70,21),(71,22),(72,23),(73,24),(74,25),(75,26),(76,27),(77,28),(78,29),(79,30),(80,31),(81,32),(82,33)],[(49,0),(50,1),(51,2),(52,3),(53,4),(54,5),(55,6),(56,7),(57,8),(58,9),(75,26),(76,27),(77,28),(78,29),(79,30)],[(49,0),(50,1),(51,2),(52,3),(53,4),(54,5),(55,6),(56,7),(57,8),(58,9),(59,10),(61,12),(63,14),(64,15),(65,16),(66,17),(67,18),(68,19),(69,20),(70,21),(71,22),(72,23),(73,24),(74,25),(75,26),(76,27),(77,28),(78,29),(79,30),(80,31),(81,32),(82,33)],[(49,0),(50,1),(51,2),(52,3),(53,4),(54,5),(55,6),(56,7),(57,8),(58,9),(59,10),(60,11),(63,14),(64,15),(65,16),(66,17),(67,18),(68,19),(69,20),(70,21),(71,22),(72,23),(73,24),(74,25),(75,26),(76,27),(77,28),(78,29),(79,30),(80,31),(81,32),(82,33)],[(49,0),(50,1),(51,2),(52,3),(53,4),(54,5),(55,6),(56,7),(57,8),(58,9),(59,10),(60,11),(61,12),(64,15),(65,16),(66,17),(67,18),(68,19),(69,20),(70,21),(71,22),(72,23),(73,24),(74,25),(75,26),(76,27),(77,28),(78,29),(79,30),(80,31),(81,32),(82,33)],[(49,0),(50,1),(51,2),(52,3),(53,4),(54,5),(55,6),(56,7),(57,8),(58,9),(59,10),(60,11),(61,12),(62,13),(64,15),(65,16),(66,17),(67,18),(69,20),(70,21),(71,22),(72,23),(73,24),(74,25),(75,26),(76,27),(77,28),(78,29),(79,30),(80,31),(81,32),(82,33)],[(49,0),(50,1),(51,2),(52,3),(53,4),(54,5),(55,6),(56,7),(57,8),(58,9),(59,10),(60,11),(61,12),(62,13),(63,14),(65,16),(67,18),(68,19),(69,20),(70,21),(71,22),(72,23),(73,24),(74,25),(75,26),(76,27),(77,28),(78,29),(79,30),(80,31),(81,32),(82,33)],[(49,0),(50,1),(51,2),(52,3),(53,4),(54,5),(55,6),(56,7),(57,8),(58,9),(59,10),(60,11),(61,12),(62,13),(63,14),(64,15),(67,18),(68,19),(69,20),(70,21),(71,22),(72,23),(73,24),(74,25),(75,26),(76,27),(77,28),(78,29),(79,30),(80,31),(81,32),(82,33)],[(49,0),(50,1),(51,2),(52,3),(53,4),(54,5),(55,6),(56,7),(57,8),(58,9),(59,10),(60,11),(61,12),(62,13),(63,14),(64,15),(65,16),(68,19),(69,20),(70,21),(71,22),(72,23),(73,24),(74,25),(75,26),(76,27),(77,28),(78,29),(79,30),(80,31),(81,32),(82,33)],[(49,0),(50,1),(51,2),(52,3),(53,4),(54,5),(55,6),(56,7),(57,8),(58,9),(59,10),(60,11),(61,12),(62,13),(63,14),(64,15),(65,16),(66,17),(69,20),(70,21),(71,22),(72,23),(73,24),(74,25),(75,26),(76,27),(77,28),(78,29),(79,30),(80,31),(81,32),(82,33)],[(49,0),(50,1),(51,2),(52,3),(53,4),(54,5),(55,6),(56,7),(57,8),(58,9),(59,10),(60,11),(61,12),(62,13),(63,14),(64,15),(65,16),(66,17),(67,18),(69,20),(70,21),(71,22),(72,23),(73,24),(74,25),(75,26),(76,27),(77,28),(78,29),(79,30),(80,31),(82,33)],[(49,0),(50,1),(51,2),(52,3),(53,4),(54,5),(55,6),(56,7),(57,8),(58,9),(59,10),(60,11),(61,12),(62,13),(63,14),(64,15),(65,16),(66,17),(67,18),(68,19),(71,22),(72,23),(73,24),(74,25),(75,26),(76,27),(77,28),(78,29),(79,30),(80,31),(81,32),(82,33)],[(49,0),(50,1),(51,2),(52,3),(53,4),(54,5),(55,6),(56,7),(57,8),(58,9),(59,10),(60,11),(61,12),(62,13),(63,14),(64,15),(65,16),(66,17),(67,18),(68,19),(69,20),(71,22),(72,23),(74,25),(75,26),(76,27),(77,28),(78,29),(79,30),(80,31),(81,32),(82,33)],[(49,0),(50,1),(51,2),(52,3),(53,4),(54,5),(55,6),(56,7),(57,8),(58,9),(59,10),(60,11),(61,12),(62,13),(63,14),(64,15),(65,16),(66,17),(67,18),(68,19),(69,20),(70,21),(73,24),(74,25),(75,26),(76,27),(77,28),(78,29),(79,30),(80,31),(81,32),(82,33)],[(49,0),(50,1),(51,2),(52,3),(53,4),(54,5),(55,6),(56,7),(57,8),(58,9),(59,10),(60,11),(61,12),(62,13),(63,14),(64,15),(65,16),(66,17),(67,18),(68,19),(69,20),(70,21),(71,22),(74,25),(75,26),(76,27),(77,28),(78,29),(79,30),(80,31),(81,32),(82,33)],[(49,0),(50,1),(51,2),(52,3),(53,4),(54,5),(55,6),(56,7),(57,8),(58,9),(59,10),(60,11),(61,12),(62,13),(63,14),(64,15),(65,16),(66,17),(67,18),(68,19),(69,20),(70,21),(71,22),(72,23),(75,26),(76,27),(77,28),(78,29),(79,30),(80,31),(81,32),(82,33)],[(49,0),(50,1),(51,2),(52,3),(53,4),(54,5),(55,6),(56,7),(57,8),(58,9),(59,10),(60,11),(61,12),(62,13),(63,14),(64,15),(65,16),(66,17),(67,18),(68,19),(69,20),(70,21),(71,22),(72,23),(73,24),(81,32),(82,33)],[(49,0),(50,1),(51,2),(52,3),(53,4),(54,5),(55,6),(56,7),(57,8),(58,9),(59,10),(60,11),(61,12),(62,13),(63,14),(64,15),(65,16),(66,17),(67,18),(68,19),(69,20),(70,21),(71,22),(72,23),(73,24),(74,25),(76,27),(78,29),(79,30),(80,31),(81,32),(82,33)],[(49,0),(50,1),(51,2),(52,3),(53,4),(54,5),(55,6),(56,7),(57,8),(58,9),(59,10),(60,11),(61,12),(62,13),(63,14),(64,15),(65,16),(66,17),(67,18),(68,19),(69,20),(70,21),(71,22),(72,23),(73,24),(74,25),(75,26),(78,29),(79,30),(80,31),(81,32),(82,33)],[(49,0),(50,1),(51,2),(52,3),(53,4),(54,5),(55,6),(56,7),(57,8),(58,9),(59,10),(60,11),(61,12),(62,13),(63,14),(64,15),(65,16),(66,17),(67,18),(68,19),(69,20),(70,21),(71,22),(72,23),(73,24),(74,25),(75,26),(76,27),(79,30),(80,31),(81,32),(82,33)],[(49,0),(50,1),(51,2),(52,3),(53,4),(54,5),(55,6),(56,7),(57,8),(58,9),(59,10),(60,11),(61,12),(62,13),(63,14),(64,15),(65,16),(66,17),(67,18),(68,19),(69,20),(70,21),(71,22),(72,23),(73,24),(74,25),(75,26),(76,27),(77,28),(80,31),(81,32),(82,33)],[(49,0),(50,1),(51,2),(52,3),(53,4),(54,5),(55,6),(56,7),(57,8),(58,9),(59,10),(60,11),(61,12),(62,13),(63,14),(64,15),(65,16),(66,17),(67,18),(68,19),(69,20),(70,21),(71,22),(72,23),(73,24),(74,25),(75,26),(76,27),(77,28),(78,29),(81,32),(82,33)],[(49,0),(50,1),(51,2),(52,3),(53,4),(54,5),(55,6),(56,7),(57,8),(58,9),(59,10),(60,11),(61,12),(62,13),(63,14),(64,15),(65,16),(66,17),(67,18),(68,19),(69,20),(70,21),(71,22),(72,23),(73,24),(74,25),(75,26),(76,27),(77,28),(78,29),(79,30),(82,33)],[(49,0),(50,1),(51,2),(52,3),(53,4),(54,5),(55,6),(56,7),(57,8),(58,9),(59,10),(60,11),(61,12),(62,13),(63,14),(64,15),(65,16),(66,17),(67,18),(68,19),(69,20),(70,21),(71,22),(72,23),(73,24),(74,25),(75,26),(76,27),(77,28),(78,29),(79,30),(80,31)],[(49,0),(50,1),(51,2),(52,3),(53,4),(54,5),(55,6),(56,7),(57,8),(58,9),(59,10),(60,11),(61,12),(62,13),(63,14),(64,15),(65,16),(66,17),(67,18),(68,19),(69,20),(70,21),(71,22),(72,23),(73,24),(74,25),(75,26),(76,27),(77,28),(78,29),(79,30),(80,31),(81,32)]] [(49,0),(50,1),(51,2),(52,3),(53,4),(54,5),(55,6),(56,7),(57,8),(58,9),(59,10),(60,11),(61,12),(62,13),(63,14),(64,15),(65,16),(66,17),(67,18),(68,19),(69,20),(70,21),(71,22),(72,23),(73,24),(74,25),(75,26),(76,27),(77,28),(78,29),(79,30),(80,31),(81,32),(82,33)]
         [Is (.slice (some ⟨g3,0,none⟩) 4 4),Is (.int .i64 (k:Int)),Is (.pointer (some ⟨g3,k*6,none⟩)),Is (.agg #[.int .i64 xk,.int .i64 xn,.int .u64 xu,.string xs,.slice xa4 xn4 xc4,.slice xa5 xn5 xc5]),Is (.slice (some ⟨g3,0,none⟩) 4 4),Is (.int .i64 (n:Int)),Is (.pointer (some ⟨g3,n*6,none⟩)),Is (.agg #[.int .i64 yk,.int .i64 yn,.int .u64 yu,.string ys,.slice ya4 yn4 yc4,.slice ya5 yn5 yc5]),Is (.bool true),Is (.bool false),Is (.bool false),Is (.slice (some ⟨g3,0,none⟩) 4 4),Is (.int .i64 (k:Int)),Is (.pointer (some ⟨g3,k*6,none⟩)),Is (.agg #[.int .i64 xk,.int .i64 xn,.int .u64 xu,.string xs,.slice xa4 xn4 xc4,.slice xa5 xn5 xc5]),Is (.slice (some ⟨g3,0,none⟩) 4 4),Is (.int .i64 (n:Int)),Is (.pointer (some ⟨g3,n*6,none⟩)),Is (.agg #[.int .i64 yk,.int .i64 yn,.int .u64 yu,.string ys,.slice ya4 yn4 yc4,.slice ya5 yn5 yc5]),Is (.bool hv),Is (.int .i64 (k:Int)),Is (.int .i64 ka),Is (.int .i64 (n:Int)),Is (.int .i64 na),Is (.bool qq),Is (.bool qq),Is (cond qq undef (.slice (some ⟨g0,0,none⟩) 8 8)),Is (cond qq undef (.int .i64 (i:Int))),Is (cond qq undef (.pointer (some ⟨g0,i,none⟩))),Is (cond qq undef (.int .u64 u)),Is (cond qq undef (.bool (decide (u < 9223372036854775808)))),Is (.bool hv),Is (.bool false),Is (.bool false)]
         zk jC.trans jC.refl (jC.refl _).drew zk ⟨jG,jG,jG,jG,jG,jG,jG,jG,jG,jG,jG,jG,jG,jG,jG,jG,jG,jG,jG,jG,jG,jG,jG,jG,jG,jG,jG,jG,jG,jG,jG,jG,jG,jG,trivial⟩ ?_ rfl ?_
        rotate_left
        ·intro y wz hG hF
         simp only[zH,Is,and_true,Nat.reduceAdd] at hF
         have hlast:=hF.2.2.2.2.2.2.2.2.2.2.2.2.2.2.2.2.2.2.2.2.2.2.2.2.2.2.2.2.2.2.2.2.2
         clear hF
         simp only[jD,Act.put,zq1,zq2,zq3,zq4,zq5,hlast]
         have HGn:=zh (HJ.out.trans hG)
         clear hG
         go_wp2_with fail
         go_roundw
         case rel=>exact⟨n+1,by omega,by go_num,HGn.out⟩
         case measure=>simp[intOf];omega
        refine⟨?_,?_⟩
        ·intro y wz hG hD K hK
         generalize hA:jD y _ _=A at hK⊢
         simp only[jD,Act.put,zq1,zq2,zq3,zq4,zq5,Is] at hA
         subst hA
         refine jF ?_
         go_simp
         exact hK _ _ _ rfl (jC.refl _) rfl
        refine⟨?_,?_⟩
        ·intro y wz hG hD K hK
         generalize hA:jD y _ _=A at hK⊢
         simp only[jD,Act.put,zq1,zq2,zq3,zq4,zq5,Is] at hA
         subst hA
         refine jF ?_
         go_simp
         exact hK _ _ _ rfl (jC.refl _) rfl
        refine⟨?_,?_⟩
        ·intro y wz hG hD K hK
         simp only[jM,zq4,zq5,Is,and_true] at hD
         have h0:=hD.1
         have h1:=hD.2
         clear hD
         generalize hA:jD y _ _=A at hK⊢
         simp only[jD,Act.put,zq1,zq2,zq3,zq4,zq5,Is] at hA
         subst hA
         simp only[h0,h1] at hK⊢
         clear h0 h1
         refine jF ?_
         go_simp
         exact hK _ _ _ rfl (jC.refl _) rfl
        refine⟨?_,?_⟩
        ·intro y wz hG hD K hK
         simp only[jM,zq4,zq5,Is,and_true] at hD
         have h2:=hD
         clear hD
         have dx0:=hG.cell x0
         have dx1:=hG.cell x1
         have dx2:=hG.cell x2
         have dx3:=hG.cell x3
         have dx4:=hG.cell x4
         have dx5:=hG.cell x5
         generalize hA:jD y _ _=A at hK⊢
         simp only[jD,Act.put,zq1,zq2,zq3,zq4,zq5,Is] at hA
         subst hA
         simp only[h2] at hK⊢
         clear h2
         refine jF ?_
         go_simp
         exact hK _ _ _ rfl (jC.refl _) rfl
        refine⟨?_,?_⟩
        ·intro y wz hG hD K hK
         generalize hA:jD y _ _=A at hK⊢
         simp only[jD,Act.put,zq1,zq2,zq3,zq4,zq5,Is] at hA
         subst hA
         refine jF ?_
         go_simp
         exact hK _ _ _ rfl (jC.refl _) rfl
        refine⟨?_,?_⟩
        ·intro y wz hG hD K hK
         generalize hA:jD y _ _=A at hK⊢
         simp only[jD,Act.put,zq1,zq2,zq3,zq4,zq5,Is] at hA
         subst hA
         refine jF ?_
         go_simp
         exact hK _ _ _ rfl (jC.refl _) rfl
        refine⟨?_,?_⟩
        ·intro y wz hG hD K hK
         simp only[jM,zq4,zq5,Is,and_true] at hD
         have h4:=hD.1
         have h5:=hD.2
         clear hD
         generalize hA:jD y _ _=A at hK⊢
         simp only[jD,Act.put,zq1,zq2,zq3,zq4,zq5,Is] at hA
         subst hA
         simp only[h4,h5] at hK⊢
         clear h4 h5
         refine jF ?_
         go_simp
         exact hK _ _ _ rfl (jC.refl _) rfl
        refine⟨?_,?_⟩
        ·intro y wz hG hD K hK
         simp only[jM,zq4,zq5,Is,and_true] at hD
         have h6:=hD
         clear hD
         have dy0:=hG.cell y0
         have dy1:=hG.cell y1
         have dy2:=hG.cell y2
         have dy3:=hG.cell y3
         have dy4:=hG.cell y4
         have dy5:=hG.cell y5
         generalize hA:jD y _ _=A at hK⊢
         simp only[jD,Act.put,zq1,zq2,zq3,zq4,zq5,Is] at hA
         subst hA
         simp only[h6] at hK⊢
         clear h6
         refine jF ?_
         go_simp
         exact hK _ _ _ rfl (jC.refl _) rfl
        refine⟨?_,?_⟩
        ·intro y wz hG hD K hK
         simp only[jM,zq4,zq5,Is,and_true] at hD
         have h3:=hD.1
         have h7:=hD.2
         clear hD
         generalize hA:jD y _ _=A at hK⊢
         simp only[jD,Act.put,zq1,zq2,zq3,zq4,zq5,Is] at hA
         subst hA
         simp only[h3,h7] at hK⊢
         clear h3 h7
         refine jF ?_
         go_simp
         refine (KY _ _ _ _ wz (jL.grew hG HNX.out) (jL.grew hG HNY.out)).mono ?_
         rintro r w3 ⟨rfl,hg3⟩
         exact hK _ _ _ rfl hg3 rfl
        refine⟨?_,?_⟩
        ·intro y wz hG hD K hK
         simp only[jM,zq4,zq5,Is,and_true] at hD
         have h8:=hD
         clear hD
         generalize hA:jD y _ _=A at hK⊢
         simp only[jD,Act.put,zq1,zq2,zq3,zq4,zq5,Is] at hA
         subst hA
         simp only[h8] at hK⊢
         clear h8
         refine jF ?_
         go_simp
         exact hK _ _ _ rfl (jC.refl _) rfl
        refine⟨?_,?_⟩
        ·intro y wz hG hD K hK
         simp only[jM,zq4,zq5,Is,and_true] at hD
         have h9:=hD
         clear hD
         generalize hA:jD y _ _=A at hK⊢
         simp only[jD,Act.put,zq1,zq2,zq3,zq4,zq5,Is] at hA
         subst hA
         simp only[h9] at hK⊢
         clear h9
         refine jF ?_
         go_simp
         exact hK _ _ _ rfl (jC.refl _) rfl
        refine⟨?_,?_⟩
        ·intro y wz hG hD K hK
         simp only[jM,zq4,zq5,Is,and_true] at hD
         have h10:=hD
         clear hD
         generalize hA:jD y _ _=A at hK⊢
         simp only[jD,Act.put,zq1,zq2,zq3,zq4,zq5,Is] at hA
         subst hA
         simp only[h10] at hK⊢
         clear h10
         refine jF ?_
         go_simp
         exact hK _ _ _ rfl (jC.refl _) rfl
        refine⟨?_,?_⟩
        ·intro y wz hG hD K hK
         simp only[jM,zq4,zq5,Is,and_true] at hD
         have h10:=hD
         clear hD
         generalize hA:jD y _ _=A at hK⊢
         simp only[jD,Act.put,zq1,zq2,zq3,zq4,zq5,Is] at hA
         subst hA
         simp only[h10] at hK⊢
         clear h10
         refine jF ?_
         go_simp
         exact hK _ _ _ rfl (jC.refl _) rfl
        refine⟨?_,?_⟩
        ·intro y wz hG hD K hK
         simp only[jM,zq4,zq5,Is,and_true] at hD
         have h10:=hD.1
         have h11:=hD.2.1
         have h12:=hD.2.2
         clear hD
         generalize hA:jD y _ _=A at hK⊢
         simp only[jD,Act.put,zq1,zq2,zq3,zq4,zq5,Is] at hA
         subst hA
         simp only[h10,h11,h12] at hK⊢
         clear h10 h11 h12
         refine jF ?_
         go_simp
         exact hK _ _ _ rfl (jC.refl _) rfl
        refine⟨?_,?_⟩
        ·intro y wz hG hD K hK
         simp only[jM,zq4,zq5,Is,and_true] at hD
         have h10:=hD.1
         have h13:=hD.2
         clear hD
         have dx0:=hG.cell x0
         have dx1:=hG.cell x1
         have dx2:=hG.cell x2
         have dx3:=hG.cell x3
         have dx4:=hG.cell x4
         have dx5:=hG.cell x5
         generalize hA:jD y _ _=A at hK⊢
         simp only[jD,Act.put,zq1,zq2,zq3,zq4,zq5,Is] at hA
         subst hA
         simp only[h10,h13] at hK⊢
         clear h10 h13
         refine jF ?_
         go_simp
         exact hK _ _ _ rfl (jC.refl _) rfl
        refine⟨?_,?_⟩
        ·intro y wz hG hD K hK
         simp only[jM,zq4,zq5,Is,and_true] at hD
         have h10:=hD
         clear hD
         generalize hA:jD y _ _=A at hK⊢
         simp only[jD,Act.put,zq1,zq2,zq3,zq4,zq5,Is] at hA
         subst hA
         simp only[h10] at hK⊢
         clear h10
         refine jF ?_
         go_simp
         exact hK _ _ _ rfl (jC.refl _) rfl
        refine⟨?_,?_⟩
        ·intro y wz hG hD K hK
         simp only[jM,zq4,zq5,Is,and_true] at hD
         have h10:=hD
         clear hD
         generalize hA:jD y _ _=A at hK⊢
         simp only[jD,Act.put,zq1,zq2,zq3,zq4,zq5,Is] at hA
         subst hA
         simp only[h10] at hK⊢
         clear h10
         refine jF ?_
         go_simp
         exact hK _ _ _ rfl (jC.refl _) rfl
        refine⟨?_,?_⟩
        ·intro y wz hG hD K hK
         simp only[jM,zq4,zq5,Is,and_true] at hD
         have h10:=hD.1
         have h15:=hD.2.1
         have h16:=hD.2.2
         clear hD
         generalize hA:jD y _ _=A at hK⊢
         simp only[jD,Act.put,zq1,zq2,zq3,zq4,zq5,Is] at hA
         subst hA
         simp only[h10,h15,h16] at hK⊢
         clear h10 h15 h16
         refine jF ?_
         go_simp
         exact hK _ _ _ rfl (jC.refl _) rfl
        refine⟨?_,?_⟩
        ·intro y wz hG hD K hK
         simp only[jM,zq4,zq5,Is,and_true] at hD
         have h10:=hD.1
         have h17:=hD.2
         clear hD
         have dy0:=hG.cell y0
         have dy1:=hG.cell y1
         have dy2:=hG.cell y2
         have dy3:=hG.cell y3
         have dy4:=hG.cell y4
         have dy5:=hG.cell y5
         generalize hA:jD y _ _=A at hK⊢
         simp only[jD,Act.put,zq1,zq2,zq3,zq4,zq5,Is] at hA
         subst hA
         simp only[h10,h17] at hK⊢
         clear h10 h17
         refine jF ?_
         go_simp
         exact hK _ _ _ rfl (jC.refl _) rfl
        refine⟨?_,?_⟩
        ·intro y wz hG hD K hK
         simp only[jM,zq4,zq5,Is,and_true] at hD
         have h10:=hD.1
         have h14:=hD.2.1
         have h18:=hD.2.2
         clear hD
         generalize hA:jD y _ _=A at hK⊢
         simp only[jD,Act.put,zq1,zq2,zq3,zq4,zq5,Is] at hA
         subst hA
         simp only[h10,h14,h18] at hK⊢
         clear h10 h14 h18
         refine jF ?_
         go_simp
         refine (qR _ _ _ _ wz (jL.grew hG HNX.out) (jL.grew hG HNY.out) HZX.out HZY.out).mono ?_
         rintro r w3 ⟨b,rfl,hb,hg3⟩
         obtain rfl:b=hv:=HHV.out b hb
         exact hK _ _ _ rfl hg3 rfl
        refine⟨?_,?_⟩
        ·intro y wz hG hD K hK
         simp only[jM,zq4,zq5,Is,and_true] at hD
         have h10:=hD
         clear hD
         generalize hA:jD y _ _=A at hK⊢
         simp only[jD,Act.put,zq1,zq2,zq3,zq4,zq5,Is] at hA
         subst hA
         simp only[h10] at hK⊢
         clear h10
         refine jF ?_
         go_simp
         exact hK _ _ _ rfl (jC.refl _) rfl
        refine⟨?_,?_⟩
        ·intro y wz hG hD K hK
         simp only[jM,zq4,zq5,Is,and_true] at hD
         have h10:=hD.1
         have h20:=hD.2
         clear hD
         generalize hA:jD y _ _=A at hK⊢
         simp only[jD,Act.put,zq1,zq2,zq3,zq4,zq5,Is] at hA
         subst hA
         simp only[h10,h20] at hK⊢
         clear h10 h20
         refine jF ?_
         go_simp
         first | exact hK _ _ _ rfl (jC.refl _) rfl | (rw[hka];exact hK _ _ _ rfl (jC.refl _) rfl) | exact hK _ _ _ rfl (jC.refl _) (by show Value.int _ _=Value.int _ _;first | rw[hka] | (congr 1;omega))
        refine⟨?_,?_⟩
        ·intro y wz hG hD K hK
         simp only[jM,zq4,zq5,Is,and_true] at hD
         have h10:=hD
         clear hD
         generalize hA:jD y _ _=A at hK⊢
         simp only[jD,Act.put,zq1,zq2,zq3,zq4,zq5,Is] at hA
         subst hA
         simp only[h10] at hK⊢
         clear h10
         refine jF ?_
         go_simp
         exact hK _ _ _ rfl (jC.refl _) rfl
        refine⟨?_,?_⟩
        ·intro y wz hG hD K hK
         simp only[jM,zq4,zq5,Is,and_true] at hD
         have h10:=hD.1
         have h22:=hD.2
         clear hD
         generalize hA:jD y _ _=A at hK⊢
         simp only[jD,Act.put,zq1,zq2,zq3,zq4,zq5,Is] at hA
         subst hA
         simp only[h10,h22] at hK⊢
         clear h10 h22
         refine jF ?_
         go_simp
         first | exact hK _ _ _ rfl (jC.refl _) rfl | (rw[hna];exact hK _ _ _ rfl (jC.refl _) rfl) | exact hK _ _ _ rfl (jC.refl _) (by show Value.int _ _=Value.int _ _;first | rw[hna] | (congr 1;omega))
        refine⟨?_,?_⟩
        ·intro y wz hG hD K hK
         simp only[jM,zq4,zq5,Is,and_true] at hD
         have h10:=hD.1
         have h21:=hD.2.1
         have h23:=hD.2.2
         clear hD
         generalize hA:jD y _ _=A at hK⊢
         simp only[jD,Act.put,zq1,zq2,zq3,zq4,zq5,Is] at hA
         subst hA
         simp only[h10,h21,h23] at hK⊢
         clear h10 h21 h23
         refine jF ?_
         go_simp
         exact hK _ _ _ rfl (jC.refl _) (by first | rfl | (show Value.bool _=Value.bool _;first | (rw[← hqq];first | rfl | simp) | simp | (rw[hhv];simp)))
        refine⟨?_,?_⟩
        ·intro y wz hG hD K hK
         simp only[jM,zq4,zq5,Is,and_true] at hD
         have h10:=hD.1
         have h24:=hD.2
         clear hD
         generalize hA:jD y _ _=A at hK⊢
         simp only[jD,Act.put,zq1,zq2,zq3,zq4,zq5,Is] at hA
         subst hA
         simp only[h10,h24] at hK⊢
         clear h10 h24
         refine jF ?_
         go_simp
         exact hK _ _ _ rfl (jC.refl _) rfl
        refine⟨?_,?_⟩
        ·intro y wz hG hD K hK
         simp only[jM,zq4,zq5,Is,and_true] at hD
         have h25:=hD
         clear hD
         generalize hA:jD y _ _=A at hK⊢
         simp only[jD,Act.put,zq1,zq2,zq3,zq4,zq5,Is] at hA
         subst hA
         simp only[h25] at hK⊢
         clear h25
         cases qq
         rotate_left
         ·refine K2 zk ?_
          exact hK _ _ _ rfl (jC.refl _) rfl
         simp only[cond_true,cond_false] at hK⊢
         refine jF ?_
         go_simp
         exact hK _ _ _ rfl (jC.refl _) rfl
        refine⟨?_,?_⟩
        ·intro y wz hG hD K hK
         simp only[jM,zq4,zq5,Is,and_true] at hD
         have h25:=hD
         clear hD
         generalize hA:jD y _ _=A at hK⊢
         simp only[jD,Act.put,zq1,zq2,zq3,zq4,zq5,Is] at hA
         subst hA
         simp only[h25] at hK⊢
         clear h25
         cases qq
         rotate_left
         ·refine K2 zk ?_
          exact hK _ _ _ rfl (jC.refl _) rfl
         simp only[cond_true,cond_false] at hK⊢
         refine jF ?_
         go_simp
         exact hK _ _ _ rfl (jC.refl _) rfl
        refine⟨?_,?_⟩
        ·intro y wz hG hD K hK
         simp only[jM,zq4,zq5,Is,and_true] at hD
         have h25:=hD.1
         have h26:=hD.2.1
         have h27:=hD.2.2
         clear hD
         generalize hA:jD y _ _=A at hK⊢
         simp only[jD,Act.put,zq1,zq2,zq3,zq4,zq5,Is] at hA
         subst hA
         simp only[h25,h26,h27] at hK⊢
         clear h25 h26 h27
         cases qq
         rotate_left
         ·refine K2 zk ?_
          exact hK _ _ _ rfl (jC.refl _) rfl
         simp only[cond_true,cond_false] at hK⊢
         refine jF ?_
         go_simp
         exact hK _ _ _ rfl (jC.refl _) rfl
        refine⟨?_,?_⟩
        ·intro y wz hG hD K hK
         simp only[jM,zq4,zq5,Is,and_true] at hD
         have h25:=hD.1
         have h28:=hD.2
         clear hD
         have dce:=hG.cell ce
         generalize hA:jD y _ _=A at hK⊢
         simp only[jD,Act.put,zq1,zq2,zq3,zq4,zq5,Is] at hA
         subst hA
         simp only[h25,h28] at hK⊢
         clear h25 h28
         cases qq
         rotate_left
         ·refine K2 zk ?_
          exact hK _ _ _ rfl (jC.refl _) rfl
         simp only[cond_true,cond_false] at hK⊢
         refine jF ?_
         go_simp
         exact hK _ _ _ rfl (jC.refl _) rfl
        refine⟨?_,?_⟩
        ·intro y wz hG hD K hK
         simp only[jM,zq4,zq5,Is,and_true] at hD
         have h25:=hD.1
         have h29:=hD.2
         clear hD
         generalize hA:jD y _ _=A at hK⊢
         simp only[jD,Act.put,zq1,zq2,zq3,zq4,zq5,Is] at hA
         subst hA
         simp only[h25,h29] at hK⊢
         clear h25 h29
         cases qq
         rotate_left
         ·refine K2 zk ?_
          exact hK _ _ _ rfl (jC.refl _) rfl
         simp only[cond_true,cond_false] at hK⊢
         refine jF ?_
         go_simp
         exact hK _ _ _ rfl (jC.refl _) rfl
        refine⟨?_,?_⟩
        ·intro y wz hG hD K hK
         simp only[jM,zq4,zq5,Is,and_true] at hD
         have h10:=hD.1
         have h25:=hD.2.1
         have h30:=hD.2.2
         clear hD
         generalize hA:jD y _ _=A at hK⊢
         simp only[jD,Act.put,zq1,zq2,zq3,zq4,zq5,Is] at hA
         subst hA
         simp only[h10,h25,h30] at hK⊢
         clear h10 h25 h30
         cases qq
         all_goals
          simp only[cond_true,cond_false] at hK⊢
          refine jF ?_
          go_simp
          exact hK _ _ _ rfl (jC.refl _) (by first | rfl | (show Value.bool _=Value.bool _;rw[HHQ.out];simp))
        refine⟨?_,?_⟩
        ·intro y wz hG hD K hK
         simp only[jM,zq4,zq5,Is,and_true] at hD
         have h10:=hD.1
         have h19:=hD.2.1
         have h31:=hD.2.2
         clear hD
         generalize hA:jD y _ _=A at hK⊢
         simp only[jD,Act.put,zq1,zq2,zq3,zq4,zq5,Is] at hA
         subst hA
         simp only[h10,h19,h31] at hK⊢
         clear h10 h19 h31
         refine jF ?_
         go_simp
         exact hK _ _ _ rfl (jC.refl _) (by first | rfl | (show Value.bool _=Value.bool _;simp))
        refine⟨?_,?_⟩
        ·intro y wz hG hD K hK
         simp only[jM,zq4,zq5,Is,and_true] at hD
         have h10:=hD.1
         have h32:=hD.2
         clear hD
         generalize hA:jD y _ _=A at hK⊢
         simp only[jD,Act.put,zq1,zq2,zq3,zq4,zq5,Is] at hA
         subst hA
         simp only[h10,h32] at hK⊢
         clear h10 h32
         refine jF ?_
         go_simp
         exact hK _ _ _ rfl (jC.refl _) rfl
        trivial
       ·have en:n=4:=by omega
        subst en
        replace HQ:=HJ
        clear HJ
        obtain⟨tx,htx⟩:∃x,(LU u)[k]? = some x:=⟨_,List.getElem?_eq_getElem (show k < 4 by omega)⟩
        obtain⟨vx,hvvx,hnvx⟩:=HKIDS.out.get htx
        obtain⟨xk,xn,xu,xs,xa4,xn4,xc4,xa5,xn5,xc5,rfl⟩:=hnvx.node6
        have HNX:Hid (jL wn tx (.agg #[.int .i64 xk,.int .i64 xn,.int .u64 xu,.string xs,.slice xa4 xn4 xc4,.slice xa5 xn5 xc5])):=hnvx.grew HQ.out
        obtain⟨avx,cvx',evx,_,_,_,hrwvx⟩:=j8.out
        injection evx with e1 e2 e3
        subst e1
        clear e2 e3
        obtain⟨bvx,ovx,evx,hcvx⟩:=hrwvx k _ hvvx
        cases evx
        obtain⟨z0,z1,z2,z3,z4,z5,e6,r0,r1,r2,r3,r4,r5⟩:=hcvx.grew HQ.out
        injection e6 with e6
        simp only[Array.mk.injEq,List.cons.injEq,and_true] at e6
        obtain⟨rfl,rfl,rfl,rfl,rfl,rfl⟩:=e6
        rw[Nat.zero_add] at r0 r1 r2 r3 r4 r5
        have x0:=r0
        have x1:=r1
        have x2:=r2
        have x3:=r3
        have x4:=r4
        have x5:=r5
        clear r0 r1 r2 r3 r4 r5 hcvx hrwvx hnvx hvvx
        have HAK:=zh (bT (List.mem_of_getElem? htx))
        have HLV:Hid (jL wn (.mk 10 0 0 ⟨#[]⟩ [] (LU u)) (.agg #[.int .i64 10,.int .i64 0,.int .u64 0,.string ⟨#[]⟩,.slice none 0 0,.slice (some ⟨g3,0,none⟩) 4 4])):=qK 10 (by unfold jQ;decide) ⟨vs,j8.out.grew HQ.out,HKIDS.out.grew HQ.out⟩
        clear htx
        go_wp2_with fail
        refine (k8 _ _ wn HNX.out HAK.out).mono ?_
        rintro r wf ⟨rfl,hg⟩
        have HF1:=zh hg
        clear hg x0 x1 x2 x3 x4 x5
        go_wp2_with fail
        refine (yJ 10 _ _ _ wf).mono ?_
        rintro r wg ⟨rfl,hg⟩
        have HF2:=zh (HF1.out.trans hg)
        clear hg
        go_wp2_with fail
        refine (k8 _ _ wg (HLV.out.grew HF2.out) (bU u)).mono ?_
        rintro r wh ⟨rfl,hg⟩
        have HF3:=zh (HQ.out.trans (HF2.out.trans hg))
        clear hg
        go_wp2_with fail
        go_roundw
        case rel=>exact⟨k+1,by omega,by go_num,HF3.out⟩
        case measure=>simp[intOf];omega
     ·have ek:k=4:=by omega
      subst ek
      go_wp2_with fail
      go_roundw
      case rel=>exact⟨i+1,by omega,by go_num,HG5.out.trans HQ.out⟩
      case measure=>simp[intOf];omega
   refine⟨?_,?_⟩
   ·intro y wz hG hD K hK
    generalize hA:jD y _ _=A at hK⊢
    simp only[jD,Act.put,zq1,zq2,zq3,zq4,zq5,Is] at hA
    subst hA
    refine jF ?_
    go_simp
    exact hK _ _ _ rfl (jC.refl _) rfl
   refine⟨?_,?_⟩
   ·intro y wz hG hD K hK
    generalize hA:jD y _ _=A at hK⊢
    simp only[jD,Act.put,zq1,zq2,zq3,zq4,zq5,Is] at hA
    subst hA
    refine jF ?_
    go_simp
    exact hK _ _ _ rfl (jC.refl _) rfl
   refine⟨?_,?_⟩
   ·intro y wz hG hD K hK
    simp only[jM,zq4,zq5,Is,and_true] at hD
    have h0:=hD.1
    have h1:=hD.2
    clear hD
    generalize hA:jD y _ _=A at hK⊢
    simp only[jD,Act.put,zq1,zq2,zq3,zq4,zq5,Is] at hA
    subst hA
    simp only[h0,h1] at hK⊢
    clear h0 h1
    refine jF ?_
    go_simp
    exact hK _ _ _ rfl (jC.refl _) rfl
   refine⟨?_,?_⟩
   ·intro y wz hG hD K hK
    simp only[jM,zq4,zq5,Is,and_true] at hD
    have h2:=hD
    clear hD
    have dce:=hG.cell ce
    generalize hA:jD y _ _=A at hK⊢
    simp only[jD,Act.put,zq1,zq2,zq3,zq4,zq5,Is] at hA
    subst hA
    simp only[h2] at hK⊢
    clear h2
    refine jF ?_
    go_simp
    exact hK _ _ _ rfl (jC.refl _) rfl
   refine⟨?_,?_⟩
   ·intro y wz hG hD K hK
    simp only[jM,zq4,zq5,Is,and_true] at hD
    have h3:=hD
    clear hD
    generalize hA:jD y _ _=A at hK⊢
    simp only[jD,Act.put,zq1,zq2,zq3,zq4,zq5,Is] at hA
    subst hA
    simp only[h3] at hK⊢
    clear h3
    refine jF ?_
    go_simp
    refine (y8 u wz).mono ?_
    rintro r w3 ⟨rfl,hg3⟩
    exact hK _ _ _ rfl hg3 rfl
   refine⟨?_,?_⟩
   ·intro y wz hG hD K hK
    generalize hA:jD y _ _=A at hK⊢
    simp only[jD,Act.put,zq1,zq2,zq3,zq4,zq5,Is] at hA
    subst hA
    refine jF ?_
    go_simp
    exact hK _ _ _ rfl (jC.refl _) rfl
   refine⟨?_,?_⟩
   ·intro y wz hG hD K hK
    generalize hA:jD y _ _=A at hK⊢
    simp only[jD,Act.put,zq1,zq2,zq3,zq4,zq5,Is] at hA
    subst hA
    refine jF ?_
    go_simp
    exact hK _ _ _ rfl (jC.refl _) rfl
   refine⟨?_,?_⟩
   ·intro y wz hG hD K hK
    simp only[jM,zq4,zq5,Is,and_true] at hD
    have h5:=hD.1
    have h6:=hD.2
    clear hD
    generalize hA:jD y _ _=A at hK⊢
    simp only[jD,Act.put,zq1,zq2,zq3,zq4,zq5,Is] at hA
    subst hA
    simp only[h5,h6] at hK⊢
    clear h5 h6
    refine jF ?_
    go_simp
    exact hK _ _ _ rfl (jC.refl _) rfl
   refine⟨?_,?_⟩
   ·intro y wz hG hD K hK
    simp only[jM,zq4,zq5,Is,and_true] at hD
    have h7:=hD
    clear hD
    have dce:=hG.cell ce
    generalize hA:jD y _ _=A at hK⊢
    simp only[jD,Act.put,zq1,zq2,zq3,zq4,zq5,Is] at hA
    subst hA
    simp only[h7] at hK⊢
    clear h7
    refine jF ?_
    go_simp
    exact hK _ _ _ rfl (jC.refl _) rfl
   refine⟨?_,?_⟩
   ·intro y wz hG hD K hK
    simp only[jM,zq4,zq5,Is,and_true] at hD
    have h8:=hD
    clear hD
    generalize hA:jD y _ _=A at hK⊢
    simp only[jD,Act.put,zq1,zq2,zq3,zq4,zq5,Is] at hA
    subst hA
    simp only[h8] at hK⊢
    clear h8
    refine jF ?_
    go_simp
    exact hK _ _ _ rfl (jC.refl _) rfl
   refine⟨?_,?_⟩
   ·intro y wz hG hD K hK
    generalize hA:jD y _ _=A at hK⊢
    simp only[jD,Act.put,zq1,zq2,zq3,zq4,zq5,Is] at hA
    subst hA
    refine jF ?_
    go_simp
    exact hK _ _ _ rfl (jC.refl _) rfl
   refine⟨?_,?_⟩
   ·intro y wz hG hD K hK
    generalize hA:jD y _ _=A at hK⊢
    simp only[jD,Act.put,zq1,zq2,zq3,zq4,zq5,Is] at hA
    subst hA
    refine jF ?_
    go_simp
    exact hK _ _ _ rfl (jC.refl _) rfl
   refine⟨?_,?_⟩
   ·intro y wz hG hD K hK
    simp only[jM,zq4,zq5,Is,and_true] at hD
    have h10:=hD.1
    have h11:=hD.2
    clear hD
    generalize hA:jD y _ _=A at hK⊢
    simp only[jD,Act.put,zq1,zq2,zq3,zq4,zq5,Is] at hA
    subst hA
    simp only[h10,h11] at hK⊢
    clear h10 h11
    refine jF ?_
    go_simp
    exact hK _ _ _ rfl (jC.refl _) rfl
   refine⟨?_,?_⟩
   ·intro y wz hG hD K hK
    simp only[jM,zq4,zq5,Is,and_true] at hD
    have h12:=hD
    clear hD
    have dce:=hG.cell ce
    generalize hA:jD y _ _=A at hK⊢
    simp only[jD,Act.put,zq1,zq2,zq3,zq4,zq5,Is] at hA
    subst hA
    simp only[h12] at hK⊢
    clear h12
    refine jF ?_
    go_simp
    exact hK _ _ _ rfl (jC.refl _) rfl
   refine⟨?_,?_⟩
   ·intro y wz hG hD K hK
    simp only[jM,zq4,zq5,Is,and_true] at hD
    have h13:=hD
    clear hD
    generalize hA:jD y _ _=A at hK⊢
    simp only[jD,Act.put,zq1,zq2,zq3,zq4,zq5,Is] at hA
    subst hA
    simp only[h13] at hK⊢
    clear h13
    refine jF ?_
    go_simp
    exact hK _ _ _ rfl (jC.refl _) rfl
   refine⟨?_,?_⟩
   ·intro y wz hG hD K hK
    simp only[jM,zq4,zq5,Is,and_true] at hD
    have h14:=hD
    clear hD
    generalize hA:jD y _ _=A at hK⊢
    simp only[jD,Act.put,zq1,zq2,zq3,zq4,zq5,Is] at hA
    subst hA
    simp only[h14] at hK⊢
    clear h14
    refine jF ?_
    go_simp
    refine (z8 nn wz).mono ?_
    rintro r w3 ⟨rfl,hg3⟩
    exact hK _ _ _ rfl hg3 rfl
   refine⟨?_,?_⟩
   ·intro y wz hG hD K hK
    generalize hA:jD y _ _=A at hK⊢
    simp only[jD,Act.put,zq1,zq2,zq3,zq4,zq5,Is] at hA
    subst hA
    refine jF ?_
    go_simp
    exact hK _ _ _ rfl (jC.refl _) rfl
   refine⟨?_,?_⟩
   ·intro y wz hG hD K hK
    generalize hA:jD y _ _=A at hK⊢
    simp only[jD,Act.put,zq1,zq2,zq3,zq4,zq5,Is] at hA
    subst hA
    refine jF ?_
    go_simp
    exact hK _ _ _ rfl (jC.refl _) rfl
   refine⟨?_,?_⟩
   ·intro y wz hG hD K hK
    simp only[jM,zq4,zq5,Is,and_true] at hD
    have h16:=hD.1
    have h17:=hD.2
    clear hD
    generalize hA:jD y _ _=A at hK⊢
    simp only[jD,Act.put,zq1,zq2,zq3,zq4,zq5,Is] at hA
    subst hA
    simp only[h16,h17] at hK⊢
    clear h16 h17
    refine jF ?_
    go_simp
    exact hK _ _ _ rfl (jC.refl _) rfl
   refine⟨?_,?_⟩
   ·intro y wz hG hD K hK
    simp only[jM,zq4,zq5,Is,and_true] at hD
    have h18:=hD
    clear hD
    have dce:=hG.cell ce
    generalize hA:jD y _ _=A at hK⊢
    simp only[jD,Act.put,zq1,zq2,zq3,zq4,zq5,Is] at hA
    subst hA
    simp only[h18] at hK⊢
    clear h18
    refine jF ?_
    go_simp
    exact hK _ _ _ rfl (jC.refl _) rfl
   refine⟨?_,?_⟩
   ·intro y wz hG hD K hK
    simp only[jM,zq4,zq5,Is,and_true] at hD
    have h19:=hD
    clear hD
    generalize hA:jD y _ _=A at hK⊢
    simp only[jD,Act.put,zq1,zq2,zq3,zq4,zq5,Is] at hA
    subst hA
    simp only[h19] at hK⊢
    clear h19
    refine jF ?_
    go_simp
    exact hK _ _ _ rfl (jC.refl _) rfl
   refine⟨?_,?_⟩
   ·intro y wz hG hD K hK
    simp only[jM,zq4,zq5,Is,and_true] at hD
    have h20:=hD
    clear hD
    generalize hA:jD y _ _=A at hK⊢
    simp only[jD,Act.put,zq1,zq2,zq3,zq4,zq5,Is] at hA
    subst hA
    simp only[h20] at hK⊢
    clear h20
    refine jF ?_
    go_simp
    exact hK _ _ _ rfl (jC.refl _) rfl
   refine⟨?_,?_⟩
   ·intro y wz hG hD K hK
    simp only[jM,zq4,zq5,Is,and_true] at hD
    have h4:=hD.1
    have h9:=hD.2.1
    have h15:=hD.2.2.1
    have h21:=hD.2.2.2
    clear hD
    generalize hA:jD y _ _=A at hK⊢
    simp only[jD,Act.put,zq1,zq2,zq3,zq4,zq5,Is] at hA
    subst hA
    simp only[h4,h9,h15,h21] at hK⊢
    clear h4 h9 h15 h21
    refine jF ?_
    go_simp
    exact hK _ _ _ rfl ((jC.refl _).alloc _) ⟨⟨_,rfl⟩,lu_built u nn wz hnn HU.out.1 HU.out.2⟩
   refine⟨?_,?_⟩
   ·intro y wz hG hD K hK
    simp only[jM,zq4,zq5,Is,and_true] at hD
    have h22:=hD
    clear hD
    generalize hA:jD y _ _=A at hK⊢
    simp only[jD,Act.put,zq1,zq2,zq3,zq4,zq5,Is] at hA
    subst hA
    refine jF ?_
    go_simp
    exact hK _ _ _ rfl (jC.refl _) h22
   trivial
  ·have hi8i:¬(i:Int) < 8:=by omega
   go_wp2_with fail
   have HG3:=zh (HG0.out.trans HI.out)
   clear kJ
   go_loopw [6] (fun kv wr=>∃kd:Nat,kd≤19∧kv=.int .i64 kd∧Hid (jC w wr)) (fun kv _=>19 - (intOf kv).toNat)
   case atStart=>exact⟨0,by omega,rfl,HG3.out⟩
   case round=>
    generalize wr=w3 at *
    obtain⟨kd,hk,rfl,HG⟩:=hrel
    by_cases hkd:kd < 19
    ·have hkdi:(kd:Int) < 19:=by omega
     go_wp2_with fail
     refine (k8 (.mk (kd:Int) 0 0 ⟨#[]⟩ [] []) _ w3 (kG (kd:Int) 0 0 ⟨#[]⟩ (by unfold jQ j9 jI;refine⟨by omega,by decide,by decide,by decide⟩) _) (kd_a kd hkd)).mono ?_
     rintro r v1 ⟨rfl,hgc⟩
     replace HG:=zh (HG.out.trans hgc)
     clear hgc
     go_wp2_with fail
     refine (k8 (.mk (kd:Int) 0 0 ⟨#[97]⟩ [] []) _ v1 (kG (kd:Int) 0 0 ⟨#[97]⟩ (by unfold jQ j9 jI;refine⟨by omega,by decide,by decide,by decide⟩) _) (kd_b kd hkd)).mono ?_
     rintro r v2 ⟨rfl,hgc⟩
     replace HG:=zh (HG.out.trans hgc)
     clear hgc
     go_wp2_with fail
     refine (z8 1 v2).mono ?_
     rintro r v3 ⟨rfl,hgc⟩
     replace HG:=zh (HG.out.trans hgc)
     clear hgc
     go_wp2_with fail
     refine (z8 2 v3).mono ?_
     rintro r v4 ⟨rfl,hgc⟩
     replace HG:=zh (HG.out.trans hgc)
     clear hgc
     go_wp2_with fail
     have hrn:Rn [(.mk 3 1 0 ⟨#[]⟩ [] []),(.mk 3 2 0 ⟨#[]⟩ [] [])] (.slice (some ⟨v4.heap.size,0,none⟩) 2 2) (v4.alloc (.cells #[.int .i64 3,.int .i64 1,.int .u64 0,.string ⟨#[]⟩,.slice none 0 0,.slice none 0 0,.int .i64 3,.int .i64 2,.int .u64 0,.string ⟨#[]⟩,.slice none 0 0,.slice none 0 0] 26)):=zC v4 [(.mk 3 1 0 ⟨#[]⟩ [] []),(.mk 3 2 0 ⟨#[]⟩ [] [])] [.agg #[.int .i64 3,.int .i64 1,.int .u64 0,.string ⟨#[]⟩,.slice none 0 0,.slice none 0 0],.agg #[.int .i64 3,.int .i64 2,.int .u64 0,.string ⟨#[]⟩,.slice none 0 0,.slice none 0 0]] (by intro x hx;simp only[List.mem_cons,List.not_mem_nil,or_false] at hx;rcases hx with rfl | rfl<;>exact⟨_,_,_,_,_,_,_,_,_,_,rfl⟩) (by simp only[k4];exact⟨_,_,rfl,kG _ _ _ _ (by unfold jQ j9 jI;refine⟨by omega,by omega,by omega,by decide⟩) _,⟨_,_,rfl,kG _ _ _ _ (by unfold jQ j9 jI;refine⟨by omega,by omega,by omega,by decide⟩) _,rfl⟩⟩) (by simp)
     have hgc:=(jC.refl v4).alloc (.cells #[.int .i64 3,.int .i64 1,.int .u64 0,.string ⟨#[]⟩,.slice none 0 0,.slice none 0 0,.int .i64 3,.int .i64 2,.int .u64 0,.string ⟨#[]⟩,.slice none 0 0,.slice none 0 0] 26)
     generalize (v4.alloc (.cells #[.int .i64 3,.int .i64 1,.int .u64 0,.string ⟨#[]⟩,.slice none 0 0,.slice none 0 0,.int .i64 3,.int .i64 2,.int .u64 0,.string ⟨#[]⟩,.slice none 0 0,.slice none 0 0] 26))=v5 at *
     generalize v4.heap.size=gq at *
     have HRN:=zh hrn
     clear hrn
     replace HG:=zh (HG.out.trans hgc)
     clear hgc
     try go_wp2_with fail
     refine (yJ (kd:Int) _ _ _ v5).mono ?_
     rintro r v6 ⟨rfl,hgc⟩
     replace HRN:=zh (Rn.st _ _ _ _ hgc HRN.out)
     replace HG:=zh (HG.out.trans hgc)
     clear hgc
     have HND:=zh (qK (kd:Int) (by unfold jQ;omega) HRN.out)
     clear HRN
     go_wp2_with fail
     refine (k8 (.mk (kd:Int) 0 0 ⟨#[]⟩ [] [(.mk 3 1 0 ⟨#[]⟩ [] []),(.mk 3 2 0 ⟨#[]⟩ [] [])]) _ v6 HND.out (kd_c kd hkd)).mono ?_
     rintro r v7 ⟨rfl,hgc⟩
     replace HG:=zh (HG.out.trans hgc)
     clear hgc
     clear HND
     go_wp2_with fail
     refine (y8 1 v7).mono ?_
     rintro r v8 ⟨rfl,hgc⟩
     replace HG:=zh (HG.out.trans hgc)
     clear hgc
     go_wp2_with fail
     refine (y8 2 v8).mono ?_
     rintro r v9 ⟨rfl,hgc⟩
     replace HG:=zh (HG.out.trans hgc)
     clear hgc
     go_wp2_with fail
     have hrn:Rn [(.mk 4 0 1 ⟨#[]⟩ [] []),(.mk 4 0 2 ⟨#[]⟩ [] [])] (.slice (some ⟨v9.heap.size,0,none⟩) 2 2) (v9.alloc (.cells #[.int .i64 4,.int .i64 0,.int .u64 1,.string ⟨#[]⟩,.slice none 0 0,.slice none 0 0,.int .i64 4,.int .i64 0,.int .u64 2,.string ⟨#[]⟩,.slice none 0 0,.slice none 0 0] 26)):=zC v9 [(.mk 4 0 1 ⟨#[]⟩ [] []),(.mk 4 0 2 ⟨#[]⟩ [] [])] [.agg #[.int .i64 4,.int .i64 0,.int .u64 1,.string ⟨#[]⟩,.slice none 0 0,.slice none 0 0],.agg #[.int .i64 4,.int .i64 0,.int .u64 2,.string ⟨#[]⟩,.slice none 0 0,.slice none 0 0]] (by intro x hx;simp only[List.mem_cons,List.not_mem_nil,or_false] at hx;rcases hx with rfl | rfl<;>exact⟨_,_,_,_,_,_,_,_,_,_,rfl⟩) (by simp only[k4];exact⟨_,_,rfl,kG _ _ _ _ (by unfold jQ j9 jI;refine⟨by omega,by omega,by omega,by decide⟩) _,⟨_,_,rfl,kG _ _ _ _ (by unfold jQ j9 jI;refine⟨by omega,by omega,by omega,by decide⟩) _,rfl⟩⟩) (by simp)
     have hgc:=(jC.refl v9).alloc (.cells #[.int .i64 4,.int .i64 0,.int .u64 1,.string ⟨#[]⟩,.slice none 0 0,.slice none 0 0,.int .i64 4,.int .i64 0,.int .u64 2,.string ⟨#[]⟩,.slice none 0 0,.slice none 0 0] 26)
     generalize (v9.alloc (.cells #[.int .i64 4,.int .i64 0,.int .u64 1,.string ⟨#[]⟩,.slice none 0 0,.slice none 0 0,.int .i64 4,.int .i64 0,.int .u64 2,.string ⟨#[]⟩,.slice none 0 0,.slice none 0 0] 26))=v10 at *
     generalize v9.heap.size=gq at *
     have HRN:=zh hrn
     clear hrn
     replace HG:=zh (HG.out.trans hgc)
     clear hgc
     try go_wp2_with fail
     refine (yJ (kd:Int) _ _ _ v10).mono ?_
     rintro r v11 ⟨rfl,hgc⟩
     replace HRN:=zh (Rn.st _ _ _ _ hgc HRN.out)
     replace HG:=zh (HG.out.trans hgc)
     clear hgc
     have HND:=zh (qK (kd:Int) (by unfold jQ;omega) HRN.out)
     clear HRN
     go_wp2_with fail
     refine (k8 (.mk (kd:Int) 0 0 ⟨#[]⟩ [] [(.mk 4 0 1 ⟨#[]⟩ [] []),(.mk 4 0 2 ⟨#[]⟩ [] [])]) _ v11 HND.out (kd_d kd hkd)).mono ?_
     rintro r v12 ⟨rfl,hgc⟩
     replace HG:=zh (HG.out.trans hgc)
     clear hgc
     clear HND
     go_wp2_with fail
     have hrn:Rn [(.mk (kd:Int) 0 0 ⟨#[]⟩ [] [])] (.slice (some ⟨v12.heap.size,0,none⟩) 1 1) (v12.alloc (.cells #[.int .i64 (kd:Int),.int .i64 0,.int .u64 0,.string ⟨#[]⟩,.slice none 0 0,.slice none 0 0] 26)):=zC v12 [(.mk (kd:Int) 0 0 ⟨#[]⟩ [] [])] [.agg #[.int .i64 (kd:Int),.int .i64 0,.int .u64 0,.string ⟨#[]⟩,.slice none 0 0,.slice none 0 0]] (by intro x hx;simp only[List.mem_cons,List.not_mem_nil,or_false] at hx;subst hx;exact⟨_,_,_,_,_,_,_,_,_,_,rfl⟩) (by simp only[k4];exact⟨_,_,rfl,kG _ _ _ _ (by unfold jQ j9 jI;refine⟨by omega,by omega,by omega,by decide⟩) _,rfl⟩) (by simp)
     have hgc:=(jC.refl v12).alloc (.cells #[.int .i64 (kd:Int),.int .i64 0,.int .u64 0,.string ⟨#[]⟩,.slice none 0 0,.slice none 0 0] 26)
     generalize (v12.alloc (.cells #[.int .i64 (kd:Int),.int .i64 0,.int .u64 0,.string ⟨#[]⟩,.slice none 0 0,.slice none 0 0] 26))=v13 at *
     generalize v12.heap.size=gq at *
     have HRN:=zh hrn
     clear hrn
     replace HG:=zh (HG.out.trans hgc)
     clear hgc
     try go_wp2_with fail
     refine (yJ 10 _ _ _ v13).mono ?_
     rintro r v14 ⟨rfl,hgc⟩
     replace HRN:=zh (Rn.st _ _ _ _ hgc HRN.out)
     replace HG:=zh (HG.out.trans hgc)
     clear hgc
     have HND:=zh (qK 10 (by unfold jQ;omega) HRN.out)
     clear HRN
     go_wp2_with fail
     refine (k8 (.mk 10 0 0 ⟨#[]⟩ [] [(.mk (kd:Int) 0 0 ⟨#[]⟩ [] [])]) _ v14 HND.out (kd_e kd hkd)).mono ?_
     rintro r v15 ⟨rfl,hgc⟩
     replace HG:=zh (HG.out.trans hgc)
     clear hgc
     clear HND
     go_wp2_with fail
     go_roundw
     case rel=>exact⟨kd+1,by omega,by go_num,HG.out⟩
     case measure=>simp[intOf];omega
    ·have ekd:kd=19:=by omega
     subst ekd
     go_wp2_with fail
     refine (vG _).mono ?_
     rintro r w4 ⟨rfl,hb⟩
     have HB:=zh (HG.out.trans hb)
     clear hb
     go_wp2
     go_ret
     exact⟨rfl,HB.out⟩
theorem normalKnown_row {H:Type} (enc:TypeId × Value→H) (W:World) (base:Nat) :
 Calls Try.prog 6 #[] W fun e w'=>e=.returned (.bool true)∧Below W.heap.size W w':=by
 exact normalKnown_any W
theorem normalKnown_own:ownKnob Try.prog.godebug=none:=by kernel_rfl
theorem normalKnown_laidOut:laidOutB Try.prog=true:=by kernel_rfl
theorem normalKnown_lifted (os:Os) (started:os.Started) (H:Type) (enc:TypeId × Value→H) :
 ReturnsInHanded {} Try.checked os 6 .any (Rows.normalKnownSpec.pre6 enc Try.prog Try.f6 Rows.normalKnownRow.domain false) (Rows.normalKnownSpec.post enc Try.prog Try.f6 false true false false):=by
 refine returnsInHanded_of_change (C:=Try.checked) normalKnown_own started zk Try.func6
  (ChangeSpec.witness6 (enc:=enc) (C:=Try.checked) false ⟨#[],#[],[]⟩ 8 zk zk zk zk) ?_
 intro W base args ds gs before hval0 hW hcnd _
 have hval:∀(j:Nat) t v,Try.f6.params[j]? = some t→args[j]? = some v→Value.okWide Try.prog W .any base t v:=hval0
 have hW':=hW
 obtain⟨p,q,hA0,hV,rfl,hfz,hnd⟩:=hW
 have hA:DataW.TrodAll enc Try.prog W 0 (fun _=>true) true Try.f6.params.toList args.toList ds p:=hA0
 rw[Try.params6] at hA hval
 obtain⟨rfl,rfl,rfl⟩:=trodAll_none hA
 obtain⟨rfl,rfl⟩:=trodVars_none hV
 have hw:=normalKnown_row enc W base
 clear hA0 hval0
 refine hw.mono fun e W' ⟨he,bel⟩=>?_
 subst he
 exact⟨_,rfl,_,_,_,[],[],[],hW',trodAll_mk1 (shut_bool Try.underlying4 _),trodAll_mk0,rfl,Below.frame bel _,fun h=>by cases h⟩
/-- The statement. -/
theorem normalKnown_holds:Rows.NormalKnownSaid:=
 OpenClaim.holds_of_wide 6 Try.f6 rfl rfl rfl rfl rfl rfl rfl ⟨rfl,rfl,rfl,rfl,rfl⟩ rfl rfl rfl rfl rfl zk Try.func6 zk
  (of_decide_eq_true zk) (by unfold Func.isWrapper;first | (rw[if_pos (by decide +kernel)];kernel_rfl) | (rw[if_neg (by decide +kernel)];exact⟨rfl,rfl⟩))
  (fun os started H enc _=>normalKnown_lifted os started H enc)
end Go.Proofs.Ytfbeepkogcmlmaa
