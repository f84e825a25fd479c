/-
  DenoteBuilt: the document built from a valid tree represents its sorted form.
-/
import Derived.Test.YtdjoffgkndncfaaGreatDBuiltPBX
set_option linter.unusedVariables false
set_option linter.unusedSimpArgs false
set_option maxHeartbeats 16000000
set_option maxRecDepth 100000
namespace Go.Proofs.YtdjoffgkndncfaaGreat
open Go.Proofs.Tryz
open Go Go.ChangeShapes Go.WideShapes Go.ChangeAt Go.RowKit Go.Joins
open Go.ChangeMaps (open_string shut_string)
open Go.Deep
open Go.Proofs.YtdjoffgkndncfaaGreat.Ft (V3 vV okV ValsAt inlineB legalB packF codeF typedF allF oneF unpackF)
theorem denoteBuilt_any (t:Tr) (v:Value) (fl:Int) (w:World) (hn:jM w t v):Calls prog 7 #[v,.int .i64 fl] w fun r w'=>r=.returned (.bool true)∧Below w.heap.size w w':=by
 have HN:=zh hn;obtain⟨k,n,u,s,a4,n4,c4,a5,n5,c5,rfl⟩:=hn.node6;have HG1:=zh ((jD.refl w).alloc (.cells #[.int .i64 k,.int .i64 n,.int .u64 u,.string s,.slice a4 n4 c4,.slice a5 n5 c5] 26));have jK:=heap_alloc_new w (.cells #[.int .i64 k,.int .i64 n,.int .u64 u,.string s,.slice a4 n4 c4,.slice a5 n5 c5] 26);have g0:=jA jK 0 _ rfl;have g1:=jA jK 1 _ rfl;have g2:=jA jK 2 _ rfl;have g3:=jA jK 3 _ rfl;have g4:=jA jK 4 _ rfl;have g5:=jA jK 5 _ rfl;have HR1:=zh jK;clear hn jK;obtain⟨T0,hT0⟩:∃T0,cutF t=T0:=⟨_,rfl⟩;have hsz:T0.size≤80:=by rw[← hT0];exact C1 t
 have hsm:smT 60 T0:=by rw[← hT0];exact cut_sm 60 _ t _ (Nat.le_refl _)
 have hsm':smT 1000 T0:=sm_wide zo _ _ (Nat.le_refl _) hsm;have HZ:=zh (And.intro hsz (And.intro hsm hsm'));go_enter func7,ntmps7;go_wp2_with fail;generalize (w.alloc (.cells #[.int .i64 k,.int .i64 n,.int .u64 u,.string s,.slice a4 n4 c4,.slice a5 n5 c5] 26))=w1 at *;refine (wX _).mono ?_;rintro r w0 ⟨rfl,hg⟩;have HG0:=zh (HG1.out.trans hg);have hr0:=hg.heap HR1.out;clear hg g0 g1 g2 g3 g4 g5;have g0:=jA hr0 0 _ rfl;have g1:=jA hr0 1 _ rfl;have g2:=jA hr0 2 _ rfl;have g3:=jA hr0 3 _ rfl;have g4:=jA hr0 4 _ rfl;have g5:=jA hr0 5 _ rfl;clear hr0;go_wp2_with fail;refine (BB t _ _ (HN.out.grew HG0.out)).mono ?_;rw[hT0];clear hT0 hsz hsm hsm';rintro r w2 ⟨v2,rfl,ho,hg2⟩;have HN2:=zh ho.node;obtain⟨rk,rn,ru,rs,ra4,rn4,rc4,ra5,rn5,rc5,rfl⟩:=ho.node6;have HRG:=zh (l7 HN2.out);have HG2:=zh (HG0.out.trans hg2);clear ho hg2 g0 g1 g2 g3 g4 g5;have HG3:=zh (HG2.out.trans ((jD.refl w2).alloc (.cells #[.int .i64 rk,.int .i64 rn,.int .u64 ru,.string rs,.slice ra4 rn4 rc4,.slice ra5 rn5 rc5] 26)));have HN3:=zh (HN2.out.grew ((jD.refl w2).alloc (.cells #[.int .i64 rk,.int .i64 rn,.int .u64 ru,.string rs,.slice ra4 rn4 rc4,.slice ra5 rn5 rc5] 26)));have jK:=heap_alloc_new w2 (.cells #[.int .i64 rk,.int .i64 rn,.int .u64 ru,.string rs,.slice ra4 rn4 rc4,.slice ra5 rn5 rc5] 26);have r0:=jA jK 0 _ rfl;have r1:=jA jK 1 _ rfl;have r2:=jA jK 2 _ rfl;have r3:=jA jK 3 _ rfl;have r4:=jA jK 4 _ rfl;have r5:=jA jK 5 _ rfl;have K6:=zh jK;clear jK;go_wp2_with fail;generalize (w2.alloc (.cells #[.int .i64 rk,.int .i64 rn,.int .u64 ru,.string rs,.slice ra4 rn4 rc4,.slice ra5 rn5 rc5] 26))=w3 at *;have hb:=ET fl T0 _ w3 HN3.out (by have:=HZ.out.1;omega) (ok_sort HZ.out.2.2);obtain⟨R,hR⟩:∃R,KD 1048576 fl T0=R:=⟨_,rfl⟩;rw[hR] at hb;have HR:=zh hR;obtain⟨D,E⟩:=R;dsimp only at hb;clear hR;refine hb.mono ?_;rintro r w4 ⟨v4,rfl,ho,hg4⟩;have HG34:=zh hg4;have HG4:=zh (HG3.out.trans hg4);have HO:=zh ho;obtain⟨da,dc,rfl,hz1,hz2,hz3⟩:=jX ho;have hr4:=hg4.heap K6.out;clear hb ho hg4 hz1 hz2 hz3 r0 r1 r2 r3 r4 r5;have HROW4:=zh hr4;clear hr4;have r0:=jA HROW4.out 0 _ rfl;have r1:=jA HROW4.out 1 _ rfl;have r2:=jA HROW4.out 2 _ rfl;have r3:=jA HROW4.out 3 _ rfl;have r4:=jA HROW4.out 4 _ rfl;have r5:=jA HROW4.out 5 _ rfl;go_wp2_with fail;refine (iV T0 _ w4 (HN3.out.grew HG34.out) (by have:=HZ.out.1;omega)).mono ?_;intro r w5 hso;obtain⟨hg5,e,sk,sn,su,ss,sa4,sn4,sc4,sa5,sn5,sc5,rfl,he,hno⟩:=fX hso;subst he;have HN5:Hid (JI T0=0→jM w5 (zX T0) (.agg #[.int .i64 sk,.int .i64 sn,.int .u64 su,.string ss,.slice sa4 sn4 sc4,.slice sa5 sn5 sc5])):=hno;have HG45:=zh hg5;clear hso hno hg5 r0 r1 r2 r3 r4 r5;have HGS:=zh ((jD.refl w5).alloc (.cells #[.int .i64 sk,.int .i64 sn,.int .u64 su,.string ss,.slice sa4 sn4 sc4,.slice sa5 sn5 sc5] 26));have hrs:=heap_alloc_new w5 (.cells #[.int .i64 sk,.int .i64 sn,.int .u64 su,.string ss,.slice sa4 sn4 sc4,.slice sa5 sn5 sc5] 26);have s0:=jA hrs 0 _ rfl;have s1:=jA hrs 1 _ rfl;have s2:=jA hrs 2 _ rfl;have s3:=jA hrs 3 _ rfl;have s4:=jA hrs 4 _ rfl;have s5:=jA hrs 5 _ rfl;have HRS:=zh hrs;clear hrs;by_cases hc:JI T0=0
 ·obtain⟨b,vv,hB,he⟩:=BK (fl:=fl) hc HZ.out.2.1 HRG.out (by have:=HZ.out.1;omega)
  obtain⟨hED,hEE⟩:aA b vv=D∧(0:Int)=E:=by
   have h:=HR.out;rw[he] at h;exact⟨congrArg Prod.fst h,congrArg Prod.snd h⟩
  subst hEE;have hdl:=hB.doc_len;have hho:=EU (by have:=hB.len;omega) hB.tells;rw[hED] at hdl hho;have HDO:=zh (CE HO.out zo);have HHO:=zh hho;have HOK:=zh (LU HZ.out.2.2 hc);have HNS:=zh (HN5.out hc);clear hB he hED hdl hho;rw[hc];clear hc;go_wp2_with fail;generalize (w5.alloc (.cells #[.int .i64 sk,.int .i64 sn,.int .u64 su,.string ss,.slice sa4 sn4 sc4,.slice sa5 sn5 sc5] 26))=w6 at *;refine (qI D _ (zX T0) HOK.out _ w6 (j6.grew HDO.out (HG45.out.trans HGS.out)) (HNS.out.grew HGS.out)).mono ?_;rintro r w7 ⟨rfl,hg⟩;rw[HHO.out];have HG7:=zh (((HG4.out.trans HG45.out).trans HGS.out).trans hg);clear hg;go_wp2;go_ret;exact⟨rfl,HG7.out⟩
 ·have HE:Hid (D=[]∧E=JI T0):=by
   have h:=HR.out;rw[EW hc] at h;exact⟨(congrArg Prod.fst h).symm,(congrArg Prod.snd h).symm⟩
  have hdl:D.length=0:=by rw[HE.out.1];rfl
  rw[← HE.out.2];have he:(E != 0)=true:=by rw[HE.out.2];simpa using hc
  clear hc;have HG6:=zh ((HG4.out.trans HG45.out).trans HGS.out);go_wp2;go_ret;exact⟨rfl,HG6.out⟩
theorem denoteBuilt_row {H:Type} (enc:TypeId × Value→H) (W:World) (base:Nat) (v0:Value) (d0:DataW H) (p0:List MemPlace) (o0:Value.okWide prog W .any base 26 v0) (k0:DataW.Trod enc prog W 0 (fun _=>true) true 26 v0 d0 p0) (v1:Value) (d1:DataW H) (p1:List MemPlace) (o1:Value.okWide prog W .any base 3 v1) (k1:DataW.Trod enc prog W 0 (fun _=>true) true 3 v1 d1 p1) :
 Calls prog 7 #[v0,v1] W fun e w'=>e=.returned (.bool true)∧Below W.heap.size W w':=by
 obtain⟨T,hT⟩:=CM o0 k0;obtain⟨fl,rfl,_,_,_⟩:=open_int underlying3 o1 k1;exact denoteBuilt_any T _ fl W hT
theorem denoteBuilt_own:ownKnob Tryz.prog.godebug=none:=by kernel_rfl
theorem denoteBuilt_laidOut:laidOutB prog=true:=by kernel_rfl
theorem denoteBuilt_lifted (os:Os) (started:os.Started) (H:Type) (enc:TypeId × Value→H) :
 ReturnsInHanded {} checked os 7 .any (Rows.denoteBuiltSpec.pre6 enc prog Tryz.f7 Rows.denoteBuiltRow.domain false) (Rows.denoteBuiltSpec.post enc prog Tryz.f7 false true false false):=by
 refine returnsInHanded_of_change (C:=checked) denoteBuilt_own started zk func7
  (ChangeSpec.witness6 (enc:=enc) (C:=checked) false ⟨#[],#[.agg #[.int .i64 0,.int .i64 0,.int .u64 0,.string ⟨#[]⟩,.slice none 0 0,.slice none 0 0],.int .i64 0],[]⟩ 8 zk zk zk zk) ?_
 intro W base args ds gs before hval0 hW hcnd _;have hval:∀(j:Nat) t v,Tryz.f7.params[j]? = some t→args[j]? = some v→Value.okWide prog W .any base t v:=hval0;have hW':=hW;obtain⟨p,q,hA0,hV,rfl,hfz,hnd⟩:=hW;have hA:DataW.TrodAll enc prog W 0 (fun _=>true) true Tryz.f7.params.toList args.toList ds p:=hA0;rw[params7] at hA hval;obtain⟨v0,vs0,d0,ds0,p0,q0,hargs,rfl,rfl,h0,r0⟩:=trodAll_cons hA;obtain⟨v1,vs1,d1,ds1,p1,q1,rfl,rfl,rfl,h1,r1⟩:=trodAll_cons r0;obtain⟨rfl,rfl,rfl⟩:=trodAll_nil r1;obtain rfl:args=#[v0,v1]:=by cases args;simp_all
 obtain⟨rfl,rfl⟩:=trodVars_none hV;have lt0:∀x∈p0,x.block < W.heap.size:=by obtain⟨m,hm⟩:=h0;exact DataW.trod_lt m _ _ _ hm
 have lt1:∀x∈p1,x.block < W.heap.size:=by obtain⟨m,hm⟩:=h1;exact DataW.trod_lt m _ _ _ hm
 have hw:=denoteBuilt_row enc W base v0 d0 p0 (hval 0 26 v0 rfl rfl) h0 v1 d1 p1 (hval 1 3 v1 rfl rfl) h1;clear hA0 hval0;refine hw.mono fun e W' ⟨he,bel⟩=>?_;subst he;exact⟨_,rfl,_,_,_,[],_,[],hW',trodAll_mk1 (shut_bool underlying4 _),(trodAll_cons_mk (Below.trod denoteBuilt_laidOut zk (of_decide_eq_true zk) h0 bel lt0) (trodAll_cons_mk (Below.trod denoteBuilt_laidOut zk (of_decide_eq_true zk) h1 bel lt1) trodAll_mk0)),rfl,Below.frame bel _,fun h=>by cases h⟩
/-- The statement. -/
theorem denoteBuilt_holds:Rows.DenoteBuiltSaid:=
 OpenClaim.holds_of_wide 7 Tryz.f7 rfl rfl rfl rfl rfl rfl rfl ⟨rfl,rfl,rfl,rfl,rfl⟩ rfl rfl rfl rfl rfl zk func7 zk
  (of_decide_eq_true zk) (by unfold Func.isWrapper;first | (rw[if_pos (by decide +kernel)];kernel_rfl) | (rw[if_neg (by decide +kernel)];exact⟨rfl,rfl⟩))
  (fun os started H enc _=>denoteBuilt_lifted os started H enc)
end Go.Proofs.YtdjoffgkndncfaaGreat
