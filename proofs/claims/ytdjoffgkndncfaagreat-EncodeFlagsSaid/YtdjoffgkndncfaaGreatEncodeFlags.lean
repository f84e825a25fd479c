/-
  EncodeFlags: the jC have no effect where nothing occurs twice.
-/
import Derived.Test.YtdjoffgkndncfaaGreatEFlagsPBX
set_option linter.unusedVariables false
set_option linter.unusedSimpArgs false
set_option maxHeartbeats 16000000
set_option maxRecDepth 100000
namespace Go.Proofs.YtdjoffgkndncfaaGreat
open Go.Proofs.Tryz
open Go Go.ChangeShapes Go.WideShapes Go.ChangeAt Go.RowKit Go.Joins
open Go.ChangeMaps (open_string shut_string)
open Go.Deep
open Go.Proofs.YtdjoffgkndncfaaGreat.Ft (V3 vV okV ValsAt inlineB legalB packF codeF typedF allF oneF unpackF)
theorem encodeFlags_any (t:Tr) (v:Value) (fl:Int) (w:World) (hn:k7 w t v):Calls prog 6 #[v,.int .i64 fl] w fun r w'=>r=.returned (.bool true)∧Below w.heap.size w w':=by
 have HN:=zh hn
 obtain⟨k,n,u,s,a4,n4,c4,a5,n5,c5,rfl⟩:=hn.node6
 have HG1:=zh ((jD.refl w).alloc (.cells #[.int .i64 k,.int .i64 n,.int .u64 u,.string s,.slice a4 n4 c4,.slice a5 n5 c5] 26))
 have jJ:=heap_alloc_new w (.cells #[.int .i64 k,.int .i64 n,.int .u64 u,.string s,.slice a4 n4 c4,.slice a5 n5 c5] 26)
 have g0:=jB jJ 0 _ rfl
 have g1:=jB jJ 1 _ rfl
 have g2:=jB jJ 2 _ rfl
 have g3:=jB jJ 3 _ rfl
 have g4:=jB jJ 4 _ rfl
 have g5:=jB jJ 5 _ rfl
 have HR1:=zh jJ
 clear hn jJ
 obtain⟨T0,hT0⟩:∃T0,(vD 20 39 t).1=T0:=⟨_,rfl⟩
 have h40:=cut40 t
 rw[hT0] at h40
 have H40:=zh h40
 have HSMALL:=zh (AT h40)
 have HPL:=zh (fun hc hr=>wL (fl:=fl) h40 hc hr)
 clear h40
 go_enter func6,ntmps6
 go_wp2_with fail
 have hs1:(w.alloc (.cells #[.int .i64 k,.int .i64 n,.int .u64 u,.string s,.slice a4 n4 c4,.slice a5 n5 c5] 26)).heap.size=w.heap.size+1:=World.size_alloc _ _
 generalize (w.alloc (.cells #[.int .i64 k,.int .i64 n,.int .u64 u,.string s,.slice a4 n4 c4,.slice a5 n5 c5] 26))=w1 at *
 have hcb:=heap_alloc_new w1 (.cells #[.int .i64 0] 3)
 have hga:=(jD.refl w1).alloc (.cells #[.int .i64 0] 3)
 have hs2:(w1.alloc (.cells #[.int .i64 0] 3)).heap.size=w1.heap.size+1:=World.size_alloc _ _
 generalize (w1.alloc (.cells #[.int .i64 0] 3))=w2 at *
 rw[hs1] at hcb hs2
 try rw[hs1]
 have HG2:=zh (HG1.out.trans hga)
 have HCB:Hid (w2.heap[w.heap.size+1]? = some (YN 0)):=hcb
 have HCB0:=zh hcb
 have HS2:Hid (w2.heap.size=w.heap.size+2):=by show _=_;omega
 have hr2:=hga.heap HR1.out
 clear hcb hs1 hs2 hga g0 g1 g2 g3 g4 g5
 have g0:=jB hr2 0 _ rfl
 have g1:=jB hr2 1 _ rfl
 have g2:=jB hr2 2 _ rfl
 have g3:=jB hr2 3 _ rfl
 have g4:=jB hr2 4 _ rfl
 have g5:=jB hr2 5 _ rfl
 clear hr2
 go_wp2_with fail
 refine (o9 40 20 (by omega) (by omega) (by omega) t _ w2 (HN.out.grew HG2.out)).mono ?_
 rw[show 40 - 1=39 from rfl,hT0]
 clear hT0 g0 g1 g2 g3 g4 g5
 rintro r w3 ⟨v3,rfl,ho3,hg3⟩
 obtain⟨ck,cn,cu,cs,ca4,cn4,cc4,ca5,cn5,cc5,rfl⟩:=ho3.node6
 have HG3:=zh (HG2.out.trans hg3)
 have HCB3:Hid (w3.heap[w.heap.size+1]? = some (YN 0)):=hg3.heap HCB.out
 have HO3:=zh ho3
 clear ho3 hg3
 go_wp2_with fail
 refine (GL w2.heap.size (w.heap.size+1) 40 T0 H40.out.1 _ w3 _ 0 HO3.out (fun g hg=>⟨hg.2,by have:=hg.1;have:=HS2.out;omega⟩) H40.out.2.2 (BR (by omega) _ _ (Nat.le_refl _) H40.out.2.1) (by have:=H40.out.1;omega) HCB3.out).mono ?_
 rintro r w4 ⟨v4,rfl,ho4,hm4,_⟩
 have HN4:=zh ho4.node
 obtain⟨rk,rn,ru,rs,ra4,rn4,rc4,ra5,rn5,rc5,rfl⟩:=ho4.node6
 have HRG:=zh (lA HN4.out)
 have HG4:Hid (jD w w4):=Moved.fresh HG3.out hm4 (fun g e=>by omega)
 clear ho4 hm4
 obtain⟨T1,hT1⟩:∃T1,(zM T0 0).1=T1:=⟨_,rfl⟩
 rw[hT1] at HN4 HRG HSMALL HPL
 clear hT1
 have HG5:=zh (HG4.out.trans ((jD.refl w4).alloc (.cells #[.int .i64 rk,.int .i64 rn,.int .u64 ru,.string rs,.slice ra4 rn4 rc4,.slice ra5 rn5 rc5] 26)))
 have HN5:=zh (HN4.out.grew ((jD.refl w4).alloc (.cells #[.int .i64 rk,.int .i64 rn,.int .u64 ru,.string rs,.slice ra4 rn4 rc4,.slice ra5 rn5 rc5] 26)))
 have jJ:=heap_alloc_new w4 (.cells #[.int .i64 rk,.int .i64 rn,.int .u64 ru,.string rs,.slice ra4 rn4 rc4,.slice ra5 rn5 rc5] 26)
 have r0:=jB jJ 0 _ rfl
 have r1:=jB jJ 1 _ rfl
 have r2:=jB jJ 2 _ rfl
 have r3:=jB jJ 3 _ rfl
 have r4:=jB jJ 4 _ rfl
 have r5:=jB jJ 5 _ rfl
 have K7:=zh jJ
 clear jJ
 go_wp2_with fail
 generalize (w4.alloc (.cells #[.int .i64 rk,.int .i64 rn,.int .u64 ru,.string rs,.slice ra4 rn4 rc4,.slice ra5 rn5 rc5] 26))=w5 at *
 refine (gO T1 _ w5 HN5.out (by have:=HSMALL.out;omega)).mono ?_
 rintro r w6 ⟨rfl,hg6⟩
 have HN6:=zh (HN5.out.grew hg6)
 have HG6:=zh (HG5.out.trans hg6)
 have hr6:=hg6.heap K7.out
 clear hg6 r0 r1 r2 r3 r4 r5
 have r0:=jB hr6 0 _ rfl
 have r1:=jB hr6 1 _ rfl
 have r2:=jB hr6 2 _ rfl
 have r3:=jB hr6 3 _ rfl
 have r4:=jB hr6 4 _ rfl
 have r5:=jB hr6 5 _ rfl
 have HROW6:=zh hr6
 clear hr6
 by_cases hc:KG T1=0
 ·have HC:=zh hc
  obtain⟨D,hD0,hDf,hoke⟩:=HPL.out hc HRG.out
  have HD0:=zh hD0
  have HDF:=zh hDf
  have HOKE:=zh hoke
  rw[hc]
  clear hD0 hDf hoke HPL
  go_wp2_with fail
  refine (AU 40 T1 HSMALL.out (by have:=HSMALL.out;omega) _ w6 HN6.out).mono ?_
  rintro r w7 ⟨rfl,hg7⟩
  have HN7:=zh (HN6.out.grew hg7)
  have HG7:=zh (HG6.out.trans hg7)
  have hr7:=hg7.heap HROW6.out
  clear r0 r1 r2 r3 r4 r5
  have r0:=jB hr7 0 _ rfl
  have r1:=jB hr7 1 _ rfl
  have r2:=jB hr7 2 _ rfl
  have r3:=jB hr7 3 _ rfl
  have r4:=jB hr7 4 _ rfl
  have r5:=jB hr7 5 _ rfl
  have HROW7:=zh hr7
  clear hr7
  clear hg7
  obtain⟨em,hem⟩:∃em,J2 T1=em:=⟨_,rfl⟩
  rw[hem] at HDF⊢
  clear hem hc
  by_cases he:em≤1
  ·have hgt:¬(1:Int) < (em:Int):=by omega
   have HDF2:=zh (HDF.out he)
   clear he HDF
   go_wp2_with fail
   have hb:=aM 0 T1 _ w7 HN7.out (by have:=HSMALL.out;omega) (fun h=>HOKE.out)
   rw[HD0.out] at hb
   refine hb.mono ?_
   dsimp only
   rintro r w8 ⟨v8,rfl,ho,hg8⟩
   have HD8:=zh (zQ.of_own ho)
   obtain⟨da8,dc8,rfl,hz1,hz2,hz3⟩:=jR ho
   have HN8:=zh (HN7.out.grew hg8)
   have HG8:=zh (HG7.out.trans hg8)
   have HGG8:=zh hg8
   have hr8:=hg8.heap HROW7.out
   clear r0 r1 r2 r3 r4 r5
   have r0:=jB hr8 0 _ rfl
   have r1:=jB hr8 1 _ rfl
   have r2:=jB hr8 2 _ rfl
   have r3:=jB hr8 3 _ rfl
   have r4:=jB hr8 4 _ rfl
   have r5:=jB hr8 5 _ rfl
   have HROW8:=zh hr8
   clear hr8
   clear hb ho hg8 hz1 hz2 hz3
   go_wp2_with fail
   have hb:=aM fl T1 _ w8 HN8.out (by have:=HSMALL.out;omega) (fun h=>HOKE.out)
   rw[HDF2.out] at hb
   refine hb.mono ?_
   dsimp only
   rintro r w9 ⟨v9,rfl,ho,hg9⟩
   have HD9:=zh (zQ.of_own ho)
   obtain⟨da9,dc9,rfl,hz1,hz2,hz3⟩:=jR ho
   have HN9:=zh (HN8.out.grew hg9)
   have HG9:=zh (HG8.out.trans hg9)
   have HGG9:=zh hg9
   have hr9:=hg9.heap HROW8.out
   clear r0 r1 r2 r3 r4 r5
   have r0:=jB hr9 0 _ rfl
   have r1:=jB hr9 1 _ rfl
   have r2:=jB hr9 2 _ rfl
   have r3:=jB hr9 3 _ rfl
   have r4:=jB hr9 4 _ rfl
   have r5:=jB hr9 5 _ rfl
   have HROW9:=zh hr9
   clear hr9
   clear hb ho hg9 hz1 hz2 hz3
   go_wp2_with fail
   have HDX:=zh (HD8.out.grew HGG9.out)
   refine (sV _ _ _ _ HDX.out HD9.out).mono ?_
   rw[decide_eq_true rfl]
   rintro r wx ⟨rfl,rfl⟩
   go_wp2_with fail
   refine (V6 _).mono ?_
   rintro r wy ⟨rfl,hgy⟩
   have HGY:=zh (HG9.out.trans hgy)
   clear hgy
   go_wp2
   go_ret
   exact⟨rfl,HGY.out⟩
  ·have hgt:(1:Int) < (em:Int):=by omega
   clear he
   go_wp2_with fail
   refine (V6 _).mono ?_
   rintro r w9 ⟨rfl,hg9⟩
   have HG9:=zh (HG7.out.trans hg9)
   clear hg9
   go_wp2
   go_ret
   exact⟨rfl,HG9.out⟩
 ·have hcb:(KG T1 != 0)=true:=by simpa using hc
  clear hc HPL
  go_wp2_with fail
  refine (V6 _).mono ?_
  rintro r w9 ⟨rfl,hg9⟩
  have HG9:=zh (HG6.out.trans hg9)
  clear hg9
  go_wp2
  go_ret
  exact⟨rfl,HG9.out⟩
theorem encodeFlags_row {H:Type} (enc:TypeId × Value→H) (W:World) (base:Nat) (v0:Value) (d0:DataW H) (p0:List MemPlace) (o0:Value.okWide prog W .any base 26 v0) (k0:DataW.Trod enc prog W 0 (fun _=>true) true 26 v0 d0 p0) (v1:Value) (d1:DataW H) (p1:List MemPlace) (o1:Value.okWide prog W .any base 3 v1) (k1:DataW.Trod enc prog W 0 (fun _=>true) true 3 v1 d1 p1) :
 Calls prog 6 #[v0,v1] W fun e w'=>e=.returned (.bool true)∧Below W.heap.size W w':=by
 obtain⟨T,hT⟩:=BZ o0 k0
 obtain⟨fl,rfl,_,_,_⟩:=open_int underlying3 o1 k1
 exact encodeFlags_any T _ fl W hT
theorem encodeFlags_own:ownKnob Tryz.prog.godebug=none:=by kernel_rfl
theorem encodeFlags_laidOut:laidOutB prog=true:=by kernel_rfl
theorem encodeFlags_lifted (os:Os) (started:os.Started) (H:Type) (enc:TypeId × Value→H) :
 ReturnsInHanded {} checked os 6 .any (Rows.encodeFlagsSpec.pre6 enc prog Tryz.f6 Rows.encodeFlagsRow.domain false) (Rows.encodeFlagsSpec.post enc prog Tryz.f6 false true false false):=by
 refine returnsInHanded_of_change (C:=checked) encodeFlags_own started zk func6
  (ChangeSpec.witness6 (enc:=enc) (C:=checked) false ⟨#[],#[.agg #[.int .i64 0,.int .i64 0,.int .u64 0,.string ⟨#[]⟩,.slice none 0 0,.slice none 0 0],.int .i64 0],[]⟩ 8 zk zk zk zk) ?_
 intro W base args ds gs before hval0 hW hcnd _
 have hval:∀(j:Nat) t v,Tryz.f6.params[j]? = some t→args[j]? = some v→Value.okWide prog W .any base t v:=hval0
 have hW':=hW
 obtain⟨p,q,hA0,hV,rfl,hfz,hnd⟩:=hW
 have hA:DataW.TrodAll enc prog W 0 (fun _=>true) true Tryz.f6.params.toList args.toList ds p:=hA0
 rw[params6] at hA hval
 obtain⟨v0,vs0,d0,ds0,p0,q0,hargs,rfl,rfl,h0,r0⟩:=trodAll_cons hA
 obtain⟨v1,vs1,d1,ds1,p1,q1,rfl,rfl,rfl,h1,r1⟩:=trodAll_cons r0
 obtain⟨rfl,rfl,rfl⟩:=trodAll_nil r1
 obtain rfl:args=#[v0,v1]:=by cases args;simp_all
 obtain⟨rfl,rfl⟩:=trodVars_none hV
 have lt0:∀x∈p0,x.block < W.heap.size:=by obtain⟨m,hm⟩:=h0;exact DataW.trod_lt m _ _ _ hm
 have lt1:∀x∈p1,x.block < W.heap.size:=by obtain⟨m,hm⟩:=h1;exact DataW.trod_lt m _ _ _ hm
 have hw:=encodeFlags_row enc W base v0 d0 p0 (hval 0 26 v0 rfl rfl) h0 v1 d1 p1 (hval 1 3 v1 rfl rfl) h1
 clear hA0 hval0
 refine hw.mono fun e W' ⟨he,bel⟩=>?_
 subst he
 exact⟨_,rfl,_,_,_,[],_,[],hW',trodAll_mk1 (shut_bool underlying4 _),(trodAll_cons_mk (Below.trod encodeFlags_laidOut zk (of_decide_eq_true zk) h0 bel lt0) (trodAll_cons_mk (Below.trod encodeFlags_laidOut zk (of_decide_eq_true zk) h1 bel lt1) trodAll_mk0)),rfl,Below.frame bel _,fun h=>by cases h⟩
/-- The statement. -/
theorem encodeFlags_holds:Rows.EncodeFlagsSaid:=
 OpenClaim.holds_of_wide 6 Tryz.f6 rfl rfl rfl rfl rfl rfl rfl ⟨rfl,rfl,rfl,rfl,rfl⟩ rfl rfl rfl rfl rfl zk func6 zk
  (of_decide_eq_true zk) (by unfold Func.isWrapper;first | (rw[if_pos (by decide +kernel)];kernel_rfl) | (rw[if_neg (by decide +kernel)];exact⟨rfl,rfl⟩))
  (fun os started H enc _=>encodeFlags_lifted os started H enc)
end Go.Proofs.YtdjoffgkndncfaaGreat
