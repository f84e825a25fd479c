/-Texts-/
import Derived.Test.YtdjoffgkndncfaaGreatDOtherPAQ
import Derived.Test.YtdjoffgkndncfaaGreatDOtherPAR
set_option linter.unusedVariables false
set_option linter.unusedSimpArgs false
set_option maxHeartbeats 16000000
set_option maxRecDepth 100000
namespace Go.Proofs.YtdjoffgkndncfaaGreat
open Go.Proofs.Tryz
open Go Go.ChangeShapes Go.WideShapes Go.ChangeAt Go.RowKit Go.Joins Go.Deep
theorem o9 (d:List UInt8) (dv:Value) (pos par typ wid at_:Int) (t:Tr) (tv:Value) (w:World) (hD:j6 w dv d) (hn:jM w t tv) (hp:0≤at_∧at_≤1048576) (hs:t.fs.size≤1000) (hw:isW wid=true):Calls prog 211 #[dv,.agg #[.int .i64 pos,.int .i64 par,.int .i64 typ,.int .i64 wid],.int .i64 at_,tv] w λr w'=>r=.returned (.bool (VY d typ wid at_ t))∧jC w w':=by
 by_cases ht5:typ=5
 ·subst ht5;have HD:=zh hD;have HT:=zh hn;obtain⟨da,dc,rfl,_⟩:=hD.form;obtain⟨tk,tn,tu,ts,ta4,tn4,tc4,ta5,tn5,tc5,rfl⟩:=hn.node6;obtain⟨ek,en,eu,es⟩:=Z0 hn;have HK:Hid (tk=t.kind∧tn=t.fn∧tu=t.fu∧ts=t.fs):=⟨ek,en,eu,es⟩;clear hD hn ek en eu es;have HG:=zh (jC.refl w);obtain⟨res,j7⟩:∃b,VY d 5 wid at_ t=b:=⟨_,rfl⟩;rw[j7];have zJ:=zh j7;clear j7;go_enter func211,ntmps211;go_upto_region 1 with fail;obtain⟨pr,hpr⟩:∃N,w.heap.size=N:=⟨_,rfl⟩;obtain⟨hr1,hga⟩:=sqal w (.cells #[.int .i64 pos,.int .i64 par,.int .i64 5,.int .i64 wid] 88);have hz1:(w.alloc (.cells #[.int .i64 pos,.int .i64 par,.int .i64 5,.int .i64 wid] 88)).heap.size=pr+1:=by rw[zm,hpr]
  generalize w.alloc _=x1 at *;rw[hpr] at hr1
  try rw[hpr]
  have HRR:=zh hr1;clear hr1 hpr;replace HD:=zh (j6.grew HD.out hga);replace HT:=zh (jM.grew hga HT.out);replace HG:=zh (HG.trans hga);clear hga;obtain⟨hr2,hga⟩:=sqal x1 (.cells #[.int .i64 tk,.int .i64 tn,.int .u64 tu,.string ts,.slice ta4 tn4 tc4,.slice ta5 tn5 tc5] 26);generalize x1.alloc _=x2 at *;rw[hz1] at hr2
  try rw[hz1]
  have HRT:=zh hr2;clear hr2 hz1;replace HD:=zh (j6.grew HD.out hga);replace HT:=zh (jM.grew hga HT.out);replace HRR:=zh (hga.heap HRR.out);replace HG:=zh (HG.trans hga);clear hga;obtain⟨c0,c1,c2,c3⟩:=sqr4 HRR;obtain⟨e0,e1,e2,e3,e4,e5⟩:=sqr6 HRT;have hcs:ts.size≤1000:=by rw[HK.2.2.2];exact hs
  clear hs;have ht:Int.tmod at_ wid=at_ % wid:=Int.tmod_eq_emod_of_nonneg hp.1;have hw1:1≤wid∧wid≤8:=by rcases yL hw with rfl | rfl | rfl | rfl<;>omega
  have hwz:(wid == 0)=false:=by rw[beq_eq_false_iff_ne];omega
  have hm0:0≤at_ % wid∧at_ % wid < 8:=⟨xg _ zo,Int.lt_of_lt_of_le (xd _ zo) hw1.2⟩;have hwm:IntKind.i64.wrap (at_ % wid)=at_ % wid:=by rw[zy];omega
  obtain⟨md,hmd⟩:∃q,at_ % wid=q:=⟨_,rfl⟩;rw[hmd] at ht hwm hm0;have HMD:=zh hmd;clear hmd;have hws:IntKind.i64.wrap (at_ - wid)=at_ - wid:=by rw[zy];omega
  have HRS:Hid (res=(yB t 6 0 0 ts && (yF d (at_ - wid) wid).2 && decide (md=0) && decide ((yF d (at_ - wid) wid).1=ts.size) && ZI d at_ (YG ts))):=by show _=_;rw[← zJ.out];unfold VY;rw[zl rfl,zl rfl,← HK.2.2.2,HMD]
  have hnum:=Z4 d (.slice da d.length dc) (at_ - wid) wid;obtain⟨nv,hnv⟩:∃q,yF d (at_ - wid) wid=q:=⟨_,rfl⟩;rw[hnv] at HRS hnum;clear hnv;obtain⟨nv,ni⟩:=nv;simp only at HRS hnum;have HNUM:=zh hnum;clear hnum;go_wp2_with fail;refine (HNUM.out _ HD.out zp8).mono ?_;rintro r u1 ⟨rfl,hgc⟩;clear c0 c1 c2 c3;clear e0 e1 e2 e3 e4 e5;replace HD:=zh (j6.grew HD.out hgc);replace HT:=zh (jM.grew hgc HT.out);replace HRR:=zh (hgc.heap HRR.out);replace HRT:=zh (hgc.heap HRT.out);replace HG:=zh (HG.trans hgc);clear hgc;obtain⟨e0,e1,e2,e3,e4,e5⟩:=sqr6 HRT;obtain⟨c0,c1,c2,c3⟩:=sqr4 HRR;go_wp2_with fail;obtain⟨b1,hb1⟩:∃b,yB t 6 0 0 ts=b:=⟨_,rfl⟩;have hh:=JJ t _ 6 0 0 ts _ HT.out;rw[hb1] at hh HRS;clear hb1;refine hh.mono ?_;clear hh;rintro r u2 ⟨rfl,hgc⟩;clear c0 c1 c2 c3;clear e0 e1 e2 e3 e4 e5;replace HD:=zh (j6.grew HD.out hgc);replace HT:=zh (jM.grew hgc HT.out);replace HRR:=zh (hgc.heap HRR.out);replace HRT:=zh (hgc.heap HRT.out);replace HG:=zh (HG.trans hgc);clear hgc;obtain⟨e0,e1,e2,e3,e4,e5⟩:=sqr6 HRT;obtain⟨c0,c1,c2,c3⟩:=sqr4 HRR;cases b1
  ·exact zb29
  cases ni
  ·exact zb29
  by_cases hm:md=0;rotate_left
  ·exact zb30
  subst hm;by_cases hn:nv=ts.size;rotate_left
  ·exact zb31
  have HV:Hid (res=ZI d at_ (YG ts)):=by show _=_;rw[HRS,qt hn];rfl
  subst hn;go_wp2_with fail;refine (BM d _ at_ (YG ts) _ HD.out zp8 (by rw[YQ];omega)).mono ?_;rintro r u3 ⟨rfl,hgc⟩;replace HD:=zh (j6.grew HD.out hgc);replace HT:=zh (jM.grew hgc HT.out);replace HRR:=zh (hgc.heap HRR.out);replace HRT:=zh (hgc.heap HRT.out);replace HG:=zh (HG.trans hgc);clear hgc;clear c0 c1 c2 c3;clear e0 e1 e2 e3 e4 e5;go_wp2;go_ret;exact⟨by rw[HV];rfl,HG.out⟩
 have hb5:(typ == 5)=false:=by simpa using ht5
 have HT5:=zh ht5;clear ht5;have HD:=zh hD;have HT:=zh hn;obtain⟨da,dc,rfl,_⟩:=hD.form;obtain⟨tk,tn,tu,ts,ta4,tn4,tc4,ta5,tn5,tc5,rfl⟩:=hn.node6;obtain⟨ek,en,eu,es⟩:=Z0 hn;have HK:Hid (tk=t.kind∧tn=t.fn∧tu=t.fu∧ts=t.fs):=⟨ek,en,eu,es⟩;clear hD hn ek en eu es;have HG:=zh (jC.refl w);obtain⟨res,j7⟩:∃b,VY d typ wid at_ t=b:=⟨_,rfl⟩;rw[j7];have zJ:=zh j7;clear j7;go_enter func211,ntmps211;go_upto_region 1 with fail;obtain⟨pr,hpr⟩:∃N,w.heap.size=N:=⟨_,rfl⟩;obtain⟨hr1,hga⟩:=sqal w (.cells #[.int .i64 pos,.int .i64 par,.int .i64 typ,.int .i64 wid] 88);have hz1:(w.alloc (.cells #[.int .i64 pos,.int .i64 par,.int .i64 typ,.int .i64 wid] 88)).heap.size=pr+1:=by rw[zm,hpr]
 generalize w.alloc _=x1 at *;rw[hpr] at hr1
 try rw[hpr]
 have HRR:=zh hr1;clear hr1 hpr;replace HD:=zh (j6.grew HD.out hga);replace HT:=zh (jM.grew hga HT.out);replace HG:=zh (HG.trans hga);clear hga;obtain⟨hr2,hga⟩:=sqal x1 (.cells #[.int .i64 tk,.int .i64 tn,.int .u64 tu,.string ts,.slice ta4 tn4 tc4,.slice ta5 tn5 tc5] 26);generalize x1.alloc _=x2 at *;rw[hz1] at hr2
 try rw[hz1]
 have HRT:=zh hr2;clear hr2 hz1;replace HD:=zh (j6.grew HD.out hga);replace HT:=zh (jM.grew hga HT.out);replace HRR:=zh (hga.heap HRR.out);replace HG:=zh (HG.trans hga);clear hga;obtain⟨c0,c1,c2,c3⟩:=sqr4 HRR;obtain⟨e0,e1,e2,e3,e4,e5⟩:=sqr6 HRT;have hcs:ts.size≤1000:=by rw[HK.2.2.2];exact hs
 clear hs;have ht:Int.tmod at_ wid=at_ % wid:=Int.tmod_eq_emod_of_nonneg hp.1;have hw1:1≤wid∧wid≤8:=by rcases yL hw with rfl | rfl | rfl | rfl<;>omega
 have hwz:(wid == 0)=false:=by rw[beq_eq_false_iff_ne];omega
 have hm0:0≤at_ % wid∧at_ % wid < 8:=⟨xg _ zo,Int.lt_of_lt_of_le (xd _ zo) hw1.2⟩;have hwm:IntKind.i64.wrap (at_ % wid)=at_ % wid:=by rw[zy];omega
 obtain⟨md,hmd⟩:∃q,at_ % wid=q:=⟨_,rfl⟩;rw[hmd] at ht hwm hm0;have HMD:=zh hmd;clear hmd;have hws:IntKind.i64.wrap (at_ - wid)=at_ - wid:=by rw[zy];omega
 have HRS:Hid (res=(yB t 7 0 0 ts && (yF d (at_ - wid) wid).2 && decide (md=0) && decide ((yF d (at_ - wid) wid).1=ts.size) && ZI d at_ ts)):=by show _=_;rw[← zJ.out];unfold VY;rw[ze HT5.out,ze HT5.out,← HK.2.2.2,HMD]
 have hnum:=Z4 d (.slice da d.length dc) (at_ - wid) wid;obtain⟨nv,hnv⟩:∃q,yF d (at_ - wid) wid=q:=⟨_,rfl⟩;rw[hnv] at HRS hnum;clear hnv;obtain⟨nv,ni⟩:=nv;simp only at HRS hnum;have HNUM:=zh hnum;clear hnum;go_wp2_with fail;refine (HNUM.out _ HD.out zp8).mono ?_;rintro r u1 ⟨rfl,hgc⟩;clear c0 c1 c2 c3;clear e0 e1 e2 e3 e4 e5;replace HD:=zh (j6.grew HD.out hgc);replace HT:=zh (jM.grew hgc HT.out);replace HRR:=zh (hgc.heap HRR.out);replace HRT:=zh (hgc.heap HRT.out);replace HG:=zh (HG.trans hgc);clear hgc;obtain⟨e0,e1,e2,e3,e4,e5⟩:=sqr6 HRT;obtain⟨c0,c1,c2,c3⟩:=sqr4 HRR;go_wp2_with fail;obtain⟨b1,hb1⟩:∃b,yB t 7 0 0 ts=b:=⟨_,rfl⟩;have hh:=JJ t _ 7 0 0 ts _ HT.out;rw[hb1] at hh HRS;clear hb1;refine hh.mono ?_;clear hh;rintro r u2 ⟨rfl,hgc⟩;clear c0 c1 c2 c3;clear e0 e1 e2 e3 e4 e5;replace HD:=zh (j6.grew HD.out hgc);replace HT:=zh (jM.grew hgc HT.out);replace HRR:=zh (hgc.heap HRR.out);replace HRT:=zh (hgc.heap HRT.out);replace HG:=zh (HG.trans hgc);clear hgc;obtain⟨e0,e1,e2,e3,e4,e5⟩:=sqr6 HRT;obtain⟨c0,c1,c2,c3⟩:=sqr4 HRR;cases b1
 ·exact zb29
 cases ni
 ·exact zb29
 by_cases hm:md=0;rotate_left
 ·exact zb30
 subst hm;by_cases hn:nv=ts.size;rotate_left
 ·exact zb31
 have HV:Hid (res=ZI d at_ ts):=by show _=_;rw[HRS,qt hn];rfl
 subst hn;go_wp2_with fail;refine (BM d _ at_ ts _ HD.out zp8 zo).mono ?_;rintro r u3 ⟨rfl,hgc⟩;replace HD:=zh (j6.grew HD.out hgc);replace HT:=zh (jM.grew hgc HT.out);replace HRR:=zh (hgc.heap HRR.out);replace HRT:=zh (hgc.heap HRT.out);replace HG:=zh (HG.trans hgc);clear hgc;clear c0 c1 c2 c3;clear e0 e1 e2 e3 e4 e5;go_wp2;go_ret;exact⟨by rw[HV];rfl,HG.out⟩
def fK:List (Int × Value):=[(10,.int .i64 10),(11,.int .i64 11),(12,.int .i64 12),(14,.int .i64 13),(36,.int .i64 14),(9,.int .i64 17)]
theorem pA (w:World):Calls prog 246 #[] w λr w'=>∃b,r=.returned (.map (some b))∧w.heap.size≤b∧oA w' b fK∧jC w w':=by
 go_enter func246,ntmps246;have hmk:=@run_makeMap prog;have HB:Hid (oA (w.alloc (.map #[] 0)) w.heap.size []):=(MapKept.heap_alloc w _).1;have HG:Hid (jC w (w.alloc (.map #[] 0))):=(jC.refl w).alloc _;go_wp2_with (refine cC _ underlying198 underlying3 rfl _ _ _ rfl w.heap.size _ rfl HB.out _ rfl _ rfl (by rfl) ?_;intro w' hb' hbel _;replace HB:=zh hb';replace HG:=zh (Below.trans HG.out (hbel w.heap.size (zr _)));clear hb' hbel);go_ret;exact⟨_,rfl,zr _,HB.out,HG.out⟩
def fF (k:Nat):Value:=.func (.func k) #[] #[]
def cN:List (Int × Value):=[(0,fF 206),(1,fF 207),(2,fF 208),(26,fF 209),(4,fF 210),(5,fF 211),(25,fF 211),(6,fF 212),(7,fF 212)]
theorem ER (w:World):Calls prog 171 #[] w λr w'=>∃b,r=.returned (.map (some b))∧w.heap.size≤b∧oA w' b cN∧jC w w':=by
 go_enter func171,ntmps171;have hmk:=@run_makeMap prog;have HB:Hid (oA (w.alloc (.map #[] 0)) w.heap.size []):=(MapKept.heap_alloc w _).1;have HG:Hid (jC w (w.alloc (.map #[] 0))):=(jC.refl w).alloc _;go_wp2_with (refine cC _ underlying209 underlying3 rfl _ _ _ rfl w.heap.size _ rfl HB.out _ rfl _ rfl (by rfl) ?_;intro w' hb' hbel _;replace HB:=zh hb';replace HG:=zh (Below.trans HG.out (hbel w.heap.size (zr _)));clear hb' hbel);go_ret;exact⟨_,rfl,zr _,HB.out,HG.out⟩
def kA (t:Int):Int × Int:=if t=10 then (10,0) else if t=11 then (11,0) else if t=12 then (12,0) else if t=14 then (13,0) else if t=36 then (14,0) else if t=9 then (17,0) else if (Ft.elemF t).1=1 then (15,(Ft.elemF t).2.1) else (16,(Ft.elemF t).2.1)
def zL (t:Int):Int:=if t=9 then 3 else if t=4∨t=6∨t=7∨0 < (Ft.elemF t).2.1 then 0 else 1
theorem ES (t:Int) (w:World):Calls prog 174 #[.int .i64 t] w λr w'=>r=.returned (.int .i64 (zL t))∧jC w w':=by
 have hel:=Ft.elem_any t w;unfold zL;generalize Ft.elemF t=el at *;obtain⟨e1,e2,e3⟩:=el;simp only at hel⊢;obtain⟨res,j7⟩:∃b,(if t=9 then (3:Int) else if t=4∨t=6∨t=7∨0 < e2 then 0 else 1)=b:=⟨_,rfl⟩;rw[j7];have HEL:=zh hel;have zJ:=zh j7;clear hel j7;by_cases h9:t=9
 ·have HV:Hid (res=3):=by show _=_;rw[← zJ.out,zl h9]
  subst h9;go_enter func174,ntmps174;go_wp2_with fail;refine HEL.mono ?_;rintro r w1 ⟨rfl,hg⟩;have HG:=zh hg;clear hg;go_wp2;go_ret;exact⟨by rw[HV];rfl,HG.out⟩
 have b9:(t == 9)=false:=by simpa using h9
 by_cases h4:t=4
 ·have HV:Hid (res=0):=by show _=_;rw[← zJ.out,ze h9,zl zo]
  clear h9 b9;subst h4;go_enter func174,ntmps174;go_wp2_with fail;refine HEL.mono ?_;rintro r w1 ⟨rfl,hg⟩;have HG:=zh hg;clear hg;go_wp2;go_ret;exact⟨by rw[HV];rfl,HG.out⟩
 have b4:(t == 4)=false:=by simpa using h4
 by_cases h6:t=6
 ·have HV:Hid (res=0):=by show _=_;rw[← zJ.out,ze h9,zl zo]
  clear h9 b9 h4 b4;subst h6;go_enter func174,ntmps174;go_wp2_with fail;refine HEL.mono ?_;rintro r w1 ⟨rfl,hg⟩;have HG:=zh hg;clear hg;go_wp2;go_ret;exact⟨by rw[HV];rfl,HG.out⟩
 have b6:(t == 6)=false:=by simpa using h6
 by_cases h7:t=7
 ·have HV:Hid (res=0):=by show _=_;rw[← zJ.out,ze h9,zl zo]
  clear h9 b9 h4 b4 h6 b6;subst h7;go_enter func174,ntmps174;go_wp2_with fail;refine HEL.mono ?_;rintro r w1 ⟨rfl,hg⟩;have HG:=zh hg;clear hg;go_wp2;go_ret;exact⟨by rw[HV];rfl,HG.out⟩
 have b7:(t == 7)=false:=by simpa using h7
 by_cases h0:0 < e2
 ·have HV:Hid (res=0):=by show _=_;rw[← zJ.out,ze h9,zl zo]
  clear h9 h4 h6 h7;go_enter func174,ntmps174;go_wp2_with fail;refine HEL.mono ?_;rintro r w1 ⟨rfl,hg⟩;have HG:=zh hg;clear hg;go_wp2;go_ret;exact⟨by rw[HV];rfl,HG.out⟩
 have HV:Hid (res=1):=by show _=_;rw[← zJ.out,ze h9,ze zo]
 clear h9 h4 h6 h7;go_enter func174,ntmps174;go_wp2_with fail;refine HEL.mono ?_;rintro r w1 ⟨rfl,hg⟩;have HG:=zh hg;clear hg;go_wp2;go_ret;exact⟨by rw[HV];rfl,HG.out⟩
section
variable {P:Program} {mt kt et:TypeId}
theorem LE (w:World) (hmt:P.underlying mt=some (.map kt et)) (hkt:P.underlying kt=some (.int .i64)) {z:Value} (hz:(zeroValue et).run P w=.ok z w) (r:Nat) (l:List (Int × Value)) (hb:oA w r l) (k:Int) :
 (Instr.lookup mt (.map (some r)) (.int .i64 k) true).run P w=.ok (match YD k l 0 with | some q=>.tuple #[q.2,.bool true] | none=>.tuple #[z,.bool false]) w:=by
 have hf:=MapKept.run_findKey (w:=w) hkt (dS k l 0 0);have hc:=λe=>MapKept.run_checkKey (w:=w) (k:=.int .i64 k) hkt A3 e 9999
 cases hq:YD k l 0 with
 | none=>rw[hq] at hf;simp[Instr.lookup,run_underlying hmt,MapKept.run_getObj_map hb,hc,hf,Result.andThen,Sem.run_pure,Sem.run_bind,hz]
 | some q=>rw[hq] at hf;simp[Instr.lookup,run_underlying hmt,MapKept.run_getObj_map hb,hc,hf,Result.andThen,Sem.run_pure,Sem.run_bind]
end
theorem BO (t:Int):(∃j kd,YD t fK 0=some (j,.int .i64 kd)∧kA t=(kd,0))∨(YD t fK 0=none∧kA t=if (Ft.elemF t).1=1 then (15,(Ft.elemF t).2.1) else (16,(Ft.elemF t).2.1)):=by
 unfold kA;by_cases h1:t=10
 ·subst h1;exact .inl ⟨_,_,rfl,rfl⟩
 by_cases h2:t=11
 ·subst h2;exact .inl ⟨_,_,rfl,rfl⟩
 by_cases h3:t=12
 ·subst h3;exact .inl ⟨_,_,rfl,rfl⟩
 by_cases h4:t=14
 ·subst h4;exact .inl ⟨_,_,rfl,rfl⟩
 by_cases h5:t=36
 ·subst h5;exact .inl ⟨_,_,rfl,rfl⟩
 by_cases h6:t=9
 ·subst h6;exact .inl ⟨_,_,rfl,rfl⟩
 refine .inr ⟨?_,?_⟩
 ·simp only[fK,YD];rw[ze h1,ze h2,ze h3,ze h4,ze h5,ze h6]
 rw[ze h1,ze h2,ze h3,ze h4,ze h5,ze h6]
theorem bJ (t:Int) (w:World):Calls prog 213 #[.int .i64 t] w λr w'=>r=.returned (.tuple #[.int .i64 (kA t).1,.int .i64 (kA t).2])∧jC w w':=by
 have hz:∀w,(zeroValue 3).run prog w=.ok (.int .i64 0) w:=λw=>by kernel_rfl
 have HEL:=zh (Ft.elem_any t);rcases BO t with ⟨j,kd,hf,hs⟩|⟨hf,hs⟩
 ·have HF:=zh hf;have HS:=zh hs;clear hs hf;go_enter func213,ntmps213;go_wp2_with fail;refine (pA w).mono ?_;rintro r w1 ⟨b,rfl,_,hm,hg⟩;have hlk:=LE w1 underlying198 underlying3 (hz w1) b fK hm t;rw[HF] at hlk;simp only at hlk;have HG:=zh hg;clear hg hm;go_wp2_with fail
  go_ret2
  exact⟨by rw[HS];rfl,HG.out⟩
 generalize Ft.elemF t=el at *;obtain⟨e1,e2,e3⟩:=el;simp only at HEL hs;have HS:=zh hs;have HF:=zh hf;clear hs hf;go_enter func213,ntmps213;go_wp2_with fail;refine (pA w).mono ?_;rintro r w1 ⟨b,rfl,_,hm,hg⟩;have hlk:=LE w1 underlying198 underlying3 (hz w1) b fK hm t;rw[HF] at hlk;simp only at hlk;have HG:=zh hg;clear hg hm;go_wp2_with fail;refine (HEL.out w1).mono ?_;rintro r w2 ⟨rfl,hg2⟩;have HG2:=zh (HG.trans hg2);clear hg2;by_cases h1:e1=1
 ·have hb:(e1 == 1)=true:=by simpa using h1
  have HV:=zh h1;clear h1;go_wp2_with fail
  go_ret2
  exact⟨by rw[HS,zl HV.out];rfl,HG2.out⟩
 have hb:(e1 == 1)=false:=by simpa using h1
 have HV:=zh h1;clear h1;go_wp2_with fail
 go_ret2
 exact⟨by rw[HS,ze HV.out];rfl,HG2.out⟩
def qO (d:List UInt8) (typ pos par wid at_:Int) (t:Tr):Bool:=
 if typ=0 then dQ d pos par t else if typ=1 then sP d pos par t else if typ=2 then dR d pos par t else if typ=26 then gQ d pos par t
 else if typ=4 then fJ d at_ t else if typ=5∨typ=25 then VY d typ wid at_ t else ZA d typ wid at_ t
def ZJ (typ:Int):Bool:=decide (typ=0) || decide (typ=1) || decide (typ=2) || decide (typ=26)
def KM (typ:Int):Bool:=decide (typ=4) || decide (typ=5) || decide (typ=25) || decide (typ=6) || decide (typ=7)
def cO (d:List UInt8) (typ pos par wid lim:Int):Bool:=
 (yF d pos par).2 && decide ((yF d pos par).1≤pos) && decide (pos - (yF d pos par).1 - zL typ*wid < lim)
def dW:List ByteArray→Bool
 | []=>true
 | [_]=>true
 | a::b::r=>ltS a b && dW (b::r)
def VD (d:List UInt8) (pos w lim:Int) (k:ByteArray):Bool:=cO d 4 pos w w lim && decide (vD k=0) && ZI d (pos - (yF d pos w).1) (YG k)
def Z5 (d:List UInt8) (w at_:Int):Nat→List ByteArray→Bool
 | _,[]=>true
 | i,k::r=>VD d (at_+i*w) w (at_ - w) k && Z5 d w at_ (i+1) r
def YW (d:List UInt8) (w at_:Int) (l:List ByteArray):Bool:=
 decide (at_ % w=0) && decide (at_+l.length*w≤d.length) && ((yF d (at_ - w) w).2 && decide ((yF d (at_ - w) w).1=l.length)) && Z5 d w at_ 0 l
def QY (d:List UInt8) (first w:Int) (l:List ByteArray):Bool:=
 (yF d first w).2 && (yF d (first+w) w).2 && isW (yF d (first+w) w).1 && decide ((yF d first w).1≤first) && decide (first - (yF d first w).1 - (yF d (first+w) w).1 < first) && dW l &&
  YW d (yF d (first+w) w).1 (first - (yF d first w).1) l
def vK (kd:Int):Bool:=decide (kd=10) || decide (kd=17)
def lW (d:List UInt8) (typ w at_:Int):Tr→Bool
 | .mk k n u s keys l=>
  decide (k=(kA typ).1) && decide (n=0) && decide (u=0) && decide (s=EMB) && (decide ((kA typ).1=17) || decide (keys.length=0)) && decide (at_ % w=0) &&
   decide (at_+l.length*w+(if vK (kA typ).1=true then (l.length:Int) else 0)≤d.length) &&
   (if (kA typ).2=0 then (yF d (at_ - w) w).2 && decide ((yF d (at_ - w) w).1=l.length) else decide ((l.length:Int)=(kA typ).2)) &&
   (if (kA typ).1=17 then decide (0≤at_ - 3*w) && decide (keys.length=l.length) && QY d (at_ - 3*w) w keys else true)
def JU (typ w at_:Int):Int:=if (kA typ).1=17 then at_ - 3*w else if (kA typ).2=0 then at_ - w else at_
def vY (d:List UInt8) (typ w at_ n:Int) (i:Nat):Int × Int × Int:=
 if vK (kA typ).1=true then Ft.unpackF ((d[(at_+n*w+i).toNat]?).getD 0).toNat else ((Ft.elemF typ).1,w,0)
mutual
def JY (d:List UInt8) (typ pos par wid lim:Int):Tr→Bool
 | .mk k n u s keys l=>
  if (isW par && isW wid && Ft.legalB typ)=false then false
  else if Ft.inlineB typ=true then qO d typ pos par wid 0 (.mk k n u s keys l)
  else if cO d typ pos par wid lim=false then false
  else if KM typ=true then qO d typ pos par wid (pos - (yF d pos par).1) (.mk k n u s keys l)
  else lW d typ wid (pos - (yF d pos par).1) (.mk k n u s keys l) && JD d typ wid (pos - (yF d pos par).1) l.length 0 l
def JD (d:List UInt8) (typ w at_ n:Int):Nat→List Tr→Bool
 | _,[]=>true
 | i,x::r=>(decide ((vY d typ w at_ n i).2.2=0) && JY d (vY d typ w at_ n i).1 (at_+i*w) w (vY d typ w at_ n i).2.1 (JU typ w at_) x) && JD d typ w at_ n (i+1) r
end
def JK (d:List UInt8) (typ w at_:Int) (t:Tr):Bool:=lW d typ w at_ t && JD d typ w at_ t.kids.length 0 t.kids
theorem bK (d:List UInt8) (typ pos par wid lim:Int) (t:Tr):JY d typ pos par wid lim t =
 if (isW par && isW wid && Ft.legalB typ)=false then false else if Ft.inlineB typ=true then qO d typ pos par wid 0 t else if cO d typ pos par wid lim=false then false
 else if KM typ=true then qO d typ pos par wid (pos - (yF d pos par).1) t else JK d typ wid (pos - (yF d pos par).1) t:=by
 cases t;simp only[JY,JK,Tr.kids]
def okS:Tr→Prop | .mk k n u s keys l=>s.size≤1000∧(∀x∈keys,x.size≤1000)∧keys.length≤4096∧l.length≤4096∧∀x,x∈l→okS x
decreasing_by
 rename_i h;have:=List.sizeOf_lt_of_mem h;simp only[Tr.mk.sizeOf_spec];omega
theorem BP (t:Int) (h:(Ft.kindOf t).1≠0):0≤t∧t≤36:=Ft.legal_range (t:=t) (by unfold Ft.legalB;exact qt h)
theorem Z6 (t:Int):Ft.inlineB t=ZJ t:=by
 by_cases h:0≤t∧t≤36
 ·obtain⟨k,rfl⟩:=Int.eq_ofNat_of_zero_le h.1;have hk:k < 37:=by omega
  have:∀k:Fin 37,Ft.inlineB ((k:Nat):Int)=ZJ ((k:Nat):Int):=by decide +kernel
  exact this ⟨k,hk⟩
 have h1:ZJ t=false:=by unfold ZJ;rw[decide_eq_false zo,decide_eq_false zo,decide_eq_false zo,decide_eq_false zo];rfl
 rw[h1];unfold Ft.inlineB;refine decide_eq_false λh2=>h (BP t zo)
theorem BQ (t:Int) (h:Ft.legalB t=true) (hn:ZJ t=false) (hf:KM t=false):YD t cN 0=none:=by
 have h2:t≠0∧t≠1∧t≠2∧t≠26:=by
  unfold ZJ at hn;simp only[Bool.or_eq_false_iff,decide_eq_false_iff_not] at hn;exact⟨hn.1.1.1,hn.1.1.2,hn.1.2,hn.2⟩
 have h3:t≠4∧t≠5∧t≠25∧t≠6∧t≠7:=by
  unfold KM at hf;simp only[Bool.or_eq_false_iff,decide_eq_false_iff_not] at hf;exact⟨hf.1.1.1.1,hf.1.1.1.2,hf.1.1.2,hf.1.2,hf.2⟩
 simp only[cN,YD];rw[ze h2.1,ze h2.2.1,ze h2.2.2.1,ze h2.2.2.2,ze h3.1,ze h3.2.1,ze h3.2.2.1,ze h3.2.2.2.1,ze h3.2.2.2.2]
theorem uW (t:Int):0≤zL t∧zL t≤3:=by
 unfold zL
 repeat' split
 all_goals omega
theorem pB (d:List UInt8) (typ:Int) (h:ZJ typ=true∨KM typ=true):∃j f,YD typ cN 0=some (j,fF f)∧(f=206∨f=207∨f=208∨f=209∨f=210∨f=211∨f=212)∧∀(dv:Value) (pos par wid at_:Int) (t:Tr) (tv:Value) (w:World),j6 w dv d→jM w t tv→kY pos→0≤at_∧at_≤1048576→t.fs.size≤1000→isW wid=true →
 Calls prog f #[dv,.agg #[.int .i64 pos,.int .i64 par,.int .i64 typ,.int .i64 wid],.int .i64 at_,tv] w λr w'=>r=.returned (.bool (qO d typ pos par wid at_ t))∧jC w w':=by
 have h9:typ=0∨typ=1∨typ=2∨typ=26∨typ=4∨typ=5∨typ=25∨typ=6∨typ=7:=by
  unfold ZJ KM at h;simp only[qv,zp] at h;omega
 rcases h9 with rfl|rfl|rfl|rfl|rfl|rfl|rfl|rfl|rfl
 ·exact⟨_,_,rfl,zp2,λdv pos par wid at_ t tv w hD hn hp ha hs hw=>LB d dv pos par 0 wid at_ t tv w hD hn hp⟩
 ·exact⟨_,_,rfl,zp2,λdv pos par wid at_ t tv w hD hn hp ha hs hw=>int_any d dv pos par 1 wid at_ t tv w hD hn hp⟩
 ·exact⟨_,_,rfl,zp2,λdv pos par wid at_ t tv w hD hn hp ha hs hw=>LC d dv pos par 2 wid at_ t tv w hD hn hp⟩
 ·exact⟨_,_,rfl,zp2,λdv pos par wid at_ t tv w hD hn hp ha hs hw=>LD d dv pos par 26 wid at_ t tv w hD hn hp⟩
 ·exact⟨_,_,rfl,zp2,λdv pos par wid at_ t tv w hD hn hp ha hs hw=>key_any d dv pos par 4 wid at_ t tv w hD hn ha hs⟩
 ·exact⟨_,_,rfl,zp2,λdv pos par wid at_ t tv w hD hn hp ha hs hw=>o9 d dv pos par 5 wid at_ t tv w hD hn ha hs hw⟩
 ·exact⟨_,_,rfl,zp2,λdv pos par wid at_ t tv w hD hn hp ha hs hw=>o9 d dv pos par 25 wid at_ t tv w hD hn ha hs hw⟩
 ·exact⟨_,_,rfl,zp2,λdv pos par wid at_ t tv w hD hn hp ha hs hw=>lU d dv pos par 6 wid at_ t tv w hD hn ha hw⟩
 exact⟨_,_,rfl,zp2,λdv pos par wid at_ t tv w hD hn hp ha hs hw=>lU d dv pos par 7 wid at_ t tv w hD hn ha hw⟩
theorem DG (k n u:Int) (s:ByteArray) (keys:List ByteArray) (l:List Tr):okS (.mk k n u s keys l)↔s.size≤1000∧(∀x∈keys,x.size≤1000)∧keys.length≤4096∧l.length≤4096∧∀x,x∈l→okS x:=by rw[okS]
def cutF (t:Tr):Tr:=(JH 60 (80 - 1) t).1
theorem ET (t:Tr):(cutF t).size≤80:=by unfold cutF;have:=cK 60 t (80 - 1);omega
theorem KD (n:Int) (w:World):Calls prog 28 #[.int .i64 n] w λr w'=>r=.returned (.agg #[.int .i64 3,.int .i64 n,.int .u64 0,.string ⟨#[]⟩,.slice none 0 0,.slice none 0 0])∧jC w w':=by
 go_enter func28,ntmps28;go_wp2_with fail;obtain⟨hb,hg⟩:=sqal w (.cells #[.int .i64 3,.int .i64 n,.int .u64 0,.string ⟨#[]⟩,.slice none 0 0,.slice none 0 0] 26);obtain⟨z0,z1,z2,z3,z4,z5⟩:=sqr6 hb;refine bodyPost_ret (v:=.agg #[.int .i64 3,.int .i64 n,.int .u64 0,.string ⟨#[]⟩,.slice none 0 0,.slice none 0 0]) (by simp[results,results28,go_sem,z0,z1,z2,z3,z4,z5]) rfl ?_;exact⟨rfl,hg⟩
theorem EU (n:Int) (w:World):Calls prog 29 #[.int .u64 n] w λr w'=>r=.returned (.agg #[.int .i64 4,.int .i64 0,.int .u64 n,.string ⟨#[]⟩,.slice none 0 0,.slice none 0 0])∧jC w w':=by
 go_enter func29,ntmps29;go_wp2_with fail;obtain⟨hb,hg⟩:=sqal w (.cells #[.int .i64 4,.int .i64 0,.int .u64 n,.string ⟨#[]⟩,.slice none 0 0,.slice none 0 0] 26);obtain⟨z0,z1,z2,z3,z4,z5⟩:=sqr6 hb;refine bodyPost_ret (v:=.agg #[.int .i64 4,.int .i64 0,.int .u64 n,.string ⟨#[]⟩,.slice none 0 0,.slice none 0 0]) (by simp[results,results29,go_sem,z0,z1,z2,z3,z4,z5]) rfl ?_;exact⟨rfl,hg⟩
theorem cP (s:ByteArray) (w:World):Calls prog 53 #[.string s] w λr w'=>r=.returned (.agg #[.int .i64 6,.int .i64 0,.int .u64 0,.string s,.slice none 0 0,.slice none 0 0])∧jC w w':=by
 go_enter func53,ntmps53;go_wp2_with fail;obtain⟨hb,hg⟩:=sqal w (.cells #[.int .i64 6,.int .i64 0,.int .u64 0,.string s,.slice none 0 0,.slice none 0 0] 26);obtain⟨z0,z1,z2,z3,z4,z5⟩:=sqr6 hb;refine bodyPost_ret (v:=.agg #[.int .i64 6,.int .i64 0,.int .u64 0,.string s,.slice none 0 0,.slice none 0 0]) (by simp[results,results53,go_sem,z0,z1,z2,z3,z4,z5]) rfl ?_;exact⟨rfl,hg⟩
theorem YX (k:Int) (a5:Option Addr) (n5 c5:Nat) (w:World):Calls prog 27 #[.int .i64 k,.slice a5 n5 c5] w λr w'=>r=.returned (.agg #[.int .i64 k,.int .i64 0,.int .u64 0,.string ⟨#[]⟩,.slice none 0 0,.slice a5 n5 c5])∧jC w w':=by
 go_enter func27,ntmps27;go_wp2_with fail;obtain⟨hb,hg⟩:=sqal w (.cells #[.int .i64 k,.int .i64 0,.int .u64 0,.string ⟨#[]⟩,.slice none 0 0,.slice a5 n5 c5] 26);obtain⟨z0,z1,z2,z3,z4,z5⟩:=sqr6 hb;refine bodyPost_ret (v:=.agg #[.int .i64 k,.int .i64 0,.int .u64 0,.string ⟨#[]⟩,.slice none 0 0,.slice a5 n5 c5]) (by simp[results,results27,go_sem,z0,z1,z2,z3,z4,z5]) rfl ?_;exact⟨rfl,hg⟩
theorem gS (a4:Option Addr) (n4 c4:Nat) (a5:Option Addr) (n5 c5:Nat) (w:World):Calls prog 54 #[.slice a4 n4 c4,.slice a5 n5 c5] w λr w'=>r=.returned (.agg #[.int .i64 17,.int .i64 0,.int .u64 0,.string ⟨#[]⟩,.slice a4 n4 c4,.slice a5 n5 c5])∧jC w w':=by
 go_enter func54,ntmps54;go_wp2_with fail;obtain⟨hb,hg⟩:=sqal w (.cells #[.int .i64 17,.int .i64 0,.int .u64 0,.string ⟨#[]⟩,.slice a4 n4 c4,.slice a5 n5 c5] 26);obtain⟨z0,z1,z2,z3,z4,z5⟩:=sqr6 hb;refine bodyPost_ret (v:=.agg #[.int .i64 17,.int .i64 0,.int .u64 0,.string ⟨#[]⟩,.slice a4 n4 c4,.slice a5 n5 c5]) (by simp[results,results54,go_sem,z0,z1,z2,z3,z4,z5]) rfl ?_;exact⟨rfl,hg⟩
end Go.Proofs.YtdjoffgkndncfaaGreat
