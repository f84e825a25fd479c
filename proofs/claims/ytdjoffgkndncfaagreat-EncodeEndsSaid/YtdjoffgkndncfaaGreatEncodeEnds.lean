/-
  EncodeEnds: a document ends with its root's tag and a width.
-/
import Derived.Test.YtdjoffgkndncfaaGreatPBX
set_option linter.unusedVariables false
set_option linter.unusedSimpArgs false
set_option maxHeartbeats 4000000
set_option maxRecDepth 100000
namespace Go.Proofs.YtdjoffgkndncfaaGreat
open Go Go.ChangeShapes Go.WideShapes Go.ChangeAt Go.RowKit Go.Joins
open Go.ChangeMaps (open_string shut_string)
open Go.Deep
open Go.Proofs.YtdjoffgkndncfaaGreat.Ft (V3 vV okV ValsAt inlineB legalB packF codeF typedF allF oneF unpackF)
theorem encodeEnds_any (t:Tr) (v:Value) (fl:Int) (w:World) (hn:NodeAt w t v):Calls Tryz.prog 5 #[v,.int .i64 fl] w fun r w'=>r=.returned (.bool true)∧Below w.heap.size w w':=by
 have HN:=zh hn
 obtain⟨k,n,u,s,a4,n4,c4,a5,n5,c5,rfl⟩:=hn.node6
 have HG1:=zh ((Grew.refl w).alloc (.cells #[.int .i64 k,.int .i64 n,.int .u64 u,.string s,.slice a4 n4 c4,.slice a5 n5 c5] 26))
 have hrow:=heap_alloc_new w (.cells #[.int .i64 k,.int .i64 n,.int .u64 u,.string s,.slice a4 n4 c4,.slice a5 n5 c5] 26)
 have g0:=row_cellT hrow 0 _ rfl
 have g1:=row_cellT hrow 1 _ rfl
 have g2:=row_cellT hrow 2 _ rfl
 have g3:=row_cellT hrow 3 _ rfl
 have g4:=row_cellT hrow 4 _ rfl
 have g5:=row_cellT hrow 5 _ rfl
 clear hn hrow
 obtain⟨T0,hT0⟩:∃T0,cutD20 t=T0:=⟨_,rfl⟩
 have hsz:T0.size≤120:=by rw[← hT0];exact cutD20_size t
 have hsm:smT 60 T0:=by rw[← hT0];exact cutD20_sm t
 have hsm':smT 1000 T0:=by rw[← hT0];exact cutD20_sm' t
 have HZ:=zh (And.intro hsz (And.intro hsm hsm'))
 go_enter Tryz.func5,Tryz.ntmps5
 go_wp2_with fail
 generalize (w.alloc (.cells #[.int .i64 k,.int .i64 n,.int .u64 u,.string s,.slice a4 n4 c4,.slice a5 n5 c5] 26))=w1 at *
 refine (few20_any t _ w1 (HN.out.grew HG1.out)).mono ?_
 rw[hT0]
 clear hT0 hsz hsm hsm'
 rintro r w2 ⟨v2,rfl,ho,hg2⟩
 have HN2:=zh ho.node
 obtain⟨rk,rn,ru,rs,ra4,rn4,rc4,ra5,rn5,rc5,rfl⟩:=ho.node6
 have HRG:=zh (rng_node HN2.out)
 have HG2:=zh (HG1.out.trans hg2)
 clear ho hg2 g0 g1 g2 g3 g4 g5
 have HG3:=zh (HG2.out.trans ((Grew.refl w2).alloc (.cells #[.int .i64 rk,.int .i64 rn,.int .u64 ru,.string rs,.slice ra4 rn4 rc4,.slice ra5 rn5 rc5] 26)))
 have HN3:=zh (HN2.out.grew ((Grew.refl w2).alloc (.cells #[.int .i64 rk,.int .i64 rn,.int .u64 ru,.string rs,.slice ra4 rn4 rc4,.slice ra5 rn5 rc5] 26)))
 have hrow:=heap_alloc_new w2 (.cells #[.int .i64 rk,.int .i64 rn,.int .u64 ru,.string rs,.slice ra4 rn4 rc4,.slice ra5 rn5 rc5] 26)
 have r0:=row_cellT hrow 0 _ rfl
 have r1:=row_cellT hrow 1 _ rfl
 have r2:=row_cellT hrow 2 _ rfl
 have r3:=row_cellT hrow 3 _ rfl
 have r4:=row_cellT hrow 4 _ rfl
 have r5:=row_cellT hrow 5 _ rfl
 have HROW:=zh hrow
 clear hrow
 go_wp2_with fail
 generalize (w2.alloc (.cells #[.int .i64 rk,.int .i64 rn,.int .u64 ru,.string rs,.slice ra4 rn4 rc4,.slice ra5 rn5 rc5] 26))=w3 at *
 have hb:=Build_any fl T0 _ w3 HN3.out (by have:=HZ.out.1;omega) (ok_sort HZ.out.2.2)
 obtain⟨R,hR⟩:∃R,buildF 1048576 fl T0=R:=⟨_,rfl⟩
 rw[hR] at hb
 have HR:=zh hR
 obtain⟨D,E⟩:=R
 dsimp only at hb
 clear hR
 refine hb.mono ?_
 rintro r w4 ⟨v4,rfl,ho,hg4⟩
 have HG4:=zh (HG3.out.trans hg4)
 have HD:=zh (BytesAt.of_own ho)
 obtain⟨da,dc,rfl,hz1,hz2,hz3⟩:=rows_form ho
 have hr4:=hg4.heap HROW.out
 clear hb ho hg4 hz1 hz2 hz3 r0 r1 r2 r3 r4 r5
 have HROW4:=zh hr4
 clear hr4
 by_cases hc:treeE T0=0
 ·obtain⟨b,v,hB,he,_⟩:=buildF_ok (fl:=fl) hc HZ.out.2.1 HRG.out HZ.out.1
  obtain⟨hED,hEE⟩:docF b v=D∧(0:Int)=E:=by
   have h:=HR.out
   rw[he] at h
   exact⟨congrArg Prod.fst h,congrArg Prod.snd h⟩
  subst hEE
  obtain⟨_,hval⟩:=check_val.1 hc
  obtain⟨x,hx,h3,hl1,⟨c,hl2,hu1,hu2⟩,hmod,hk,hw1,hw2⟩:=ends_ok hB hval
  rw[hED] at h3 hl1 hl2 hmod
  have hkk:T0.kind=rk:=(kind_cell HN3.out).symm
  have hkl:T0.kids.length=rn5:=by
   have h:=HN3.out
   cases T0
   simp only[NodeAt] at h
   obtain⟨_,kv,lv,vs,e,_,hro,hki⟩:=h
   obtain⟨a,c,e2,_⟩:=hro
   injection e with e
   injection e with e
   simp at e
   have h5:=e.2.2.2.2.2
   rw[e2] at h5
   injection h5 with _ h6 _
   rw[h6,hki.length]
   rfl
  rw[hkk] at hk hw1 hw2
  rw[hkl] at hw2
  obtain⟨db,dof,rfl,hlt,hcell⟩:=bytes_cell HD.out (by intro e;rw[e] at h3;simp at h3)
  have q1:=hcell _ _ hl1
  have q2:=hcell _ _ hl2
  have hxp:=isW_pos hx
  rw[show (UInt8.ofNat x.toNat).toNat=x.toNat by rw[UInt8.toNat_ofNat'];omega] at q1
  have HU:Hid (∀w,Calls Tryz.prog 19 #[.int .u8 c.toNat] w fun e w'=>e=.returned (.tuple #[.int .i64 v.1,.int .i64 (Ft.unpackF c.toNat).2.1,.int .i64 0])∧Grew w w'):=fun w=>by
   have h:=Ft.unpack_any c.toNat w (UInt8.toNat_lt c)
   rw[hu1,hu2] at h
   exact h
  generalize (Ft.unpackF c.toNat).2.1=uw at *
  obtain⟨vt,hvt⟩:∃vt,v.1=vt:=⟨_,rfl⟩
  rw[hvt] at HU hw1 hw2
  obtain⟨cn,hcn⟩:∃cn:Nat,c.toNat=cn:=⟨_,rfl⟩
  rw[hcn] at HU q2
  obtain⟨m,hm⟩:∃m,D.length=m:=⟨_,rfl⟩
  rw[hm] at q1 q2 h3 hmod⊢
  have hi1:((m:Int) - 2).toNat=m - 2:=by omega
  have hi2:((m:Int) - 1).toNat=m - 1:=by omega
  have hwr1:IntKind.i64.wrap ((m:Int) - 2)=(m:Int) - 2:=by rw[IntKind.wrap_i64];have:=hB.doc_len;rw[hED] at this;omega
  have hwr2:IntKind.i64.wrap ((m:Int) - 1)=(m:Int) - 1:=by rw[IntKind.wrap_i64];have:=hB.doc_len;rw[hED] at this;omega
  have hb1:0≤(m:Int) - 2∧(m:Int) - 2 < m:=by omega
  have hb2:0≤(m:Int) - 1∧(m:Int) - 1 < m:=by omega
  have hl3:¬(m:Int) < 3:=by omega
  clear hB he hval hl1 hl2 hu1 hu2 hcell hlt hED hcn hvt hm hkk hkl hc
  go_wp2_with fail
  refine (HU.out _).mono ?_
  rintro r w5 ⟨rfl,hg⟩
  replace q1:=hg.cell q1
  have HG5:=zh ((HG4.out.trans hg).alloc (.cells #[.int .i64 0,.int .i64 26,.int .i64 1,.int .i64 2,.int .i64 4,.int .i64 5,.int .i64 25,.int .i64 6,.int .i64 7,.int .i64 10,.int .i64 11,.int .i64 12,.int .i64 14,.int .i64 36,.int .i64 0,.int .i64 0,.int .i64 9] 3))
  have hro:=(hg.alloc (.cells #[.int .i64 0,.int .i64 26,.int .i64 1,.int .i64 2,.int .i64 4,.int .i64 5,.int .i64 25,.int .i64 6,.int .i64 7,.int .i64 10,.int .i64 11,.int .i64 12,.int .i64 14,.int .i64 36,.int .i64 0,.int .i64 0,.int .i64 9] 3)).heap HROW4.out
  have r0:=row_cellT hro 0 _ rfl
  have r5:=row_cellT hro 5 _ rfl
  clear hg hro q2 HU
  have HW1:=zh hw1
  have HW2:=zh hw2
  have HK:=zh hk
  clear hw1 hw2 hk
  by_cases h15:rk=15
  ·subst h15
   obtain⟨e1,e2,e3⟩:=HW2.out (.inl rfl)
   have hel:=Ft.elem_any vt
   obtain⟨q,hq⟩:∃q,Ft.elemF vt=q:=⟨_,rfl⟩
   rw[hq] at hel e1 e2 e3
   clear hq
   obtain⟨el,mn,is_⟩:=q
   dsimp only at hel e1 e2 e3
   subst e1 e2
   obtain rfl:el=1:=e3.2 rfl
   have HEL:=zh hel
   clear hel e3
   go_wp2_with fail
   refine (HEL.out _).mono ?_
   rintro r w6 ⟨rfl,hg⟩
   have HG6:=zh (HG5.out.trans hg)
   replace r0:=hg.cell r0
   replace r5:=hg.cell r5
   clear hg HEL q1
   go_wp2_with fail
   refine (works20_any _).mono ?_
   rintro r w7 ⟨rfl,hg⟩
   have HG7:=zh (HG6.out.trans hg)
   clear hg
   go_wp2
   go_ret
   exact⟨rfl,HG7.out⟩
  by_cases h16:rk=16
  ·subst h16
   obtain⟨e1,e2,e3⟩:=HW2.out (.inr rfl)
   have hel:=Ft.elem_any vt
   obtain⟨q,hq⟩:∃q,Ft.elemF vt=q:=⟨_,rfl⟩
   rw[hq] at hel e1 e2 e3
   clear hq
   obtain⟨el,mn,is_⟩:=q
   dsimp only at hel e1 e2 e3
   subst e1 e2
   have hel1:(el == 1)=false:=by rw[beq_eq_false_iff_ne];intro h;have:=e3.1 h;omega
   have HEL:=zh hel
   clear hel e3
   clear h15
   go_wp2_with fail
   refine (HEL.out _).mono ?_
   rintro r w6 ⟨rfl,hg⟩
   have HG6:=zh (HG5.out.trans hg)
   replace r0:=hg.cell r0
   replace r5:=hg.cell r5
   clear hg HEL q1
   go_wp2_with fail
   refine (works20_any _).mono ?_
   rintro r w7 ⟨rfl,hg⟩
   have HG7:=zh (HG6.out.trans hg)
   clear hg
   go_wp2
   go_ret
   exact⟨rfl,HG7.out⟩
  have hk1:=HK.out.1
  have hk2:=HK.out.2
  have hvt:=HW1.out h15 h16
  have q15:(rk == 15)=false:=by simpa using h15
  have q16:(rk == 16)=false:=by simpa using h16
  obtain⟨j,hj⟩:∃j:Nat,(rk - 1).toNat=j:=⟨_,rfl⟩
  have hwant:(#[.int .i64 0,.int .i64 26,.int .i64 1,.int .i64 2,.int .i64 4,.int .i64 5,.int .i64 25,.int .i64 6,.int .i64 7,.int .i64 10,.int .i64 11,.int .i64 12,.int .i64 14,.int .i64 36,.int .i64 0,.int .i64 0,.int .i64 9]:Array Value)[j]? = some (.int .i64 vt):=by
   rw[hvt]
   clear q1 r0 r5 q15 q16
   rcases kinds rk hk1 hk2 with e|e|e|e|e|e|e|e|e|e|e|e|e|e|e|e|e
   all_goals
    subst e
    subst hj
    rfl
  have hce:=row_cellT (heap_alloc_new w5 (.cells #[.int .i64 0,.int .i64 26,.int .i64 1,.int .i64 2,.int .i64 4,.int .i64 5,.int .i64 25,.int .i64 6,.int .i64 7,.int .i64 10,.int .i64 11,.int .i64 12,.int .i64 14,.int .i64 36,.int .i64 0,.int .i64 0,.int .i64 9] 3)) j _ hwant
  have hwr3:IntKind.i64.wrap (rk - 1)=rk - 1:=by rw[IntKind.wrap_i64];omega
  have hbd:0≤rk - 1∧rk - 1 < 17:=by omega
  have hkl1:¬rk < 1:=by omega
  clear hvt hwant h15 h16 HW1 HW2 HK
  rcases isW_cases hx with rfl|rfl|rfl|rfl
  all_goals
   have htm:=Int.tmod_eq_emod_of_nonneg (a:=(m:Int) - 2) (by omega) |>.trans hmod
   clear hmod hx hxp hi1
   go_wp2_with fail
   refine (works20_any _).mono ?_
   rintro r w7 ⟨rfl,hg⟩
   have HG7:=zh (HG5.out.trans hg)
   clear hg
   go_wp2
   go_ret
   exact⟨rfl,HG7.out⟩
 ·have HE:Hid (D=[]∧E=treeE T0):=by
   have h:=HR.out
   rw[buildF_no hc] at h
   exact⟨(congrArg Prod.fst h).symm,(congrArg Prod.snd h).symm⟩
  have he:(E != 0)=true:=by rw[HE.out.2];simpa using hc
  clear hc
  go_wp2_with fail
  refine (works20_any _).mono ?_
  rintro r w5 ⟨rfl,hg⟩
  have HG5:=zh (HG4.out.trans hg)
  clear hg
  go_wp2
  go_ret
  exact⟨rfl,HG5.out⟩
theorem encodeEnds_row {H:Type} (enc:TypeId × Value→H) (W:World) (base:Nat) (v0:Value) (d0:DataW H) (p0:List MemPlace) (o0:Value.okWide Tryz.prog W .any base 26 v0) (k0:DataW.Trod enc Tryz.prog W 0 (fun _=>true) true 26 v0 d0 p0) (v1:Value) (d1:DataW H) (p1:List MemPlace) (o1:Value.okWide Tryz.prog W .any base 3 v1) (k1:DataW.Trod enc Tryz.prog W 0 (fun _=>true) true 3 v1 d1 p1) :
 Calls Tryz.prog 5 #[v0,v1] W fun e w'=>e=.returned (.bool true)∧Below W.heap.size W w':=by
 obtain⟨T,hT⟩:=open_node o0 k0
 obtain⟨fl,rfl,_,_,_⟩:=open_int Tryz.underlying3 o1 k1
 exact encodeEnds_any T _ fl W hT
theorem encodeEnds_own:ownKnob Tryz.prog.godebug=none:=by kernel_rfl
theorem encodeEnds_laidOut:laidOutB Tryz.prog=true:=by kernel_rfl
theorem encodeEnds_lifted (os:Os) (started:os.Started) (H:Type) (enc:TypeId × Value→H) :
 ReturnsInHanded {} Tryz.checked os 5 .any (Rows.encodeEndsSpec.pre6 enc Tryz.prog Tryz.f5 Rows.encodeEndsRow.domain false) (Rows.encodeEndsSpec.post enc Tryz.prog Tryz.f5 false true false false):=by
 refine returnsInHanded_of_change (C:=Tryz.checked) encodeEnds_own started zk Tryz.func5
  (ChangeSpec.witness6 (enc:=enc) (C:=Tryz.checked) false ⟨#[],#[.agg #[.int .i64 0,.int .i64 0,.int .u64 0,.string ⟨#[]⟩,.slice none 0 0,.slice none 0 0],.int .i64 0],[]⟩ 8 zk zk zk zk) ?_
 intro W base args ds gs before hval0 hW hcnd _
 have hval:∀(j:Nat) t v,Tryz.f5.params[j]? = some t→args[j]? = some v→Value.okWide Tryz.prog W .any base t v:=hval0
 have hW':=hW
 obtain⟨p,q,hA0,hV,rfl,hfz,hnd⟩:=hW
 have hA:DataW.TrodAll enc Tryz.prog W 0 (fun _=>true) true Tryz.f5.params.toList args.toList ds p:=hA0
 rw[Tryz.params5] at hA hval
 obtain⟨v0,vs0,d0,ds0,p0,q0,hargs,rfl,rfl,h0,r0⟩:=trodAll_cons hA
 obtain⟨v1,vs1,d1,ds1,p1,q1,rfl,rfl,rfl,h1,r1⟩:=trodAll_cons r0
 obtain⟨rfl,rfl,rfl⟩:=trodAll_nil r1
 obtain rfl:args=#[v0,v1]:=by cases args;simp_all
 obtain⟨rfl,rfl⟩:=trodVars_none hV
 have lt0:∀x∈p0,x.block < W.heap.size:=by obtain⟨m,hm⟩:=h0;exact DataW.trod_lt m _ _ _ hm
 have lt1:∀x∈p1,x.block < W.heap.size:=by obtain⟨m,hm⟩:=h1;exact DataW.trod_lt m _ _ _ hm
 have hw:=encodeEnds_row enc W base v0 d0 p0 (hval 0 26 v0 rfl rfl) h0 v1 d1 p1 (hval 1 3 v1 rfl rfl) h1
 clear hA0 hval0
 refine hw.mono fun e W' ⟨he,bel⟩=>?_
 subst he
 exact⟨_,rfl,_,_,_,[],_,[],hW',trodAll_mk1 (shut_bool Tryz.underlying4 _),(trodAll_cons_mk (Below.trod encodeEnds_laidOut zk (of_decide_eq_true zk) h0 bel lt0) (trodAll_cons_mk (Below.trod encodeEnds_laidOut zk (of_decide_eq_true zk) h1 bel lt1) trodAll_mk0)),rfl,Below.frame bel _,fun h=>by cases h⟩
/-- The statement. -/
theorem encodeEnds_holds:Rows.EncodeEndsSaid:=
 OpenClaim.holds_of_wide 5 Tryz.f5 rfl rfl rfl rfl rfl rfl rfl ⟨rfl,rfl,rfl,rfl,rfl⟩ rfl rfl rfl rfl rfl zk Tryz.func5 zk
  (of_decide_eq_true zk) (by unfold Func.isWrapper;first | (rw[if_pos (by decide +kernel)];kernel_rfl) | (rw[if_neg (by decide +kernel)];exact⟨rfl,rfl⟩))
  (fun os started H enc _=>encodeEnds_lifted os started H enc)
end Go.Proofs.YtdjoffgkndncfaaGreat
