/-
  Texts of the proof.
-/
import Derived.Test.YtdjoffgkndncfaaGreatDBuiltPAQ
import Derived.Test.YtdjoffgkndncfaaGreatDBuiltPAR
set_option linter.unusedVariables false
set_option linter.unusedSimpArgs false
set_option maxHeartbeats 16000000
set_option maxRecDepth 100000
namespace Go.Proofs.YtdjoffgkndncfaaGreat
open Go.Proofs.Tryz
open Go Go.ChangeShapes Go.WideShapes Go.ChangeAt Go.RowKit Go.Joins Go.Deep
theorem nL (d:List UInt8) (dv:Value) (pos par typ wid at_:Int) (t:Tr) (tv:Value) (w:World) (hD:j6 w dv d) (hn:jM w t tv) (hp:0≤at_∧at_≤1048576) (hs:t.fs.size≤1000) (hw:isW wid=true):Calls prog 211 #[dv,.agg #[.int .i64 pos,.int .i64 par,.int .i64 typ,.int .i64 wid],.int .i64 at_,tv] w fun r w'=>r=.returned (.bool (fC d typ wid at_ t))∧jD w w':=by
 by_cases ht5:typ=5
 ·subst ht5;have HD:=zh hD;have HT:=zh hn;obtain⟨da,dc,rfl,_⟩:=hD.form;obtain⟨tk,tn,tu,ts,ta4,tn4,tc4,ta5,tn5,tc5,rfl⟩:=hn.node6;obtain⟨ek,en,eu,es⟩:=ZN hn;have HK:Hid (tk=t.kind∧tn=t.fn∧tu=t.fu∧ts=t.fs):=⟨ek,en,eu,es⟩;clear hD hn ek en eu es;have HG:=zh (jD.refl w);obtain⟨res,kC⟩:∃b,fC d 5 wid at_ t=b:=⟨_,rfl⟩;rw[kC];have zB:=zh kC;clear kC;go_enter func211,ntmps211;go_upto_region 1 with fail;obtain⟨pr,hpr⟩:∃N,w.heap.size=N:=⟨_,rfl⟩;have hr1:=heap_alloc_new w (.cells #[.int .i64 pos,.int .i64 par,.int .i64 5,.int .i64 wid] 88);have hga:=(jD.refl w).alloc (.cells #[.int .i64 pos,.int .i64 par,.int .i64 5,.int .i64 wid] 88);have hz1:(w.alloc (.cells #[.int .i64 pos,.int .i64 par,.int .i64 5,.int .i64 wid] 88)).heap.size=pr+1:=by rw[World.size_alloc,hpr]
  generalize (w.alloc (.cells #[.int .i64 pos,.int .i64 par,.int .i64 5,.int .i64 wid] 88))=x1 at *;rw[hpr] at hr1
  try rw[hpr]
  have HRR:=zh hr1;clear hr1 hpr;replace HD:=zh (j6.grew HD.out hga);replace HT:=zh (jM.grew hga HT.out);replace HG:=zh (HG.out.trans hga);clear hga;have hr2:=heap_alloc_new x1 (.cells #[.int .i64 tk,.int .i64 tn,.int .u64 tu,.string ts,.slice ta4 tn4 tc4,.slice ta5 tn5 tc5] 26);have hga:=(jD.refl x1).alloc (.cells #[.int .i64 tk,.int .i64 tn,.int .u64 tu,.string ts,.slice ta4 tn4 tc4,.slice ta5 tn5 tc5] 26);generalize (x1.alloc (.cells #[.int .i64 tk,.int .i64 tn,.int .u64 tu,.string ts,.slice ta4 tn4 tc4,.slice ta5 tn5 tc5] 26))=x2 at *;rw[hz1] at hr2
  try rw[hz1]
  have HRT:=zh hr2;clear hr2 hz1;replace HD:=zh (j6.grew HD.out hga);replace HT:=zh (jM.grew hga HT.out);replace HRR:=zh (hga.heap HRR.out);replace HG:=zh (HG.out.trans hga);clear hga;have c0:=jA HRR.out 0 _ rfl;have c1:=jA HRR.out 1 _ rfl;have c2:=jA HRR.out 2 _ rfl;have c3:=jA HRR.out 3 _ rfl;have e0:=jA HRT.out 0 _ rfl;have e1:=jA HRT.out 1 _ rfl;have e2:=jA HRT.out 2 _ rfl;have e3:=jA HRT.out 3 _ rfl;have e4:=jA HRT.out 4 _ rfl;have e5:=jA HRT.out 5 _ rfl;have hcs:ts.size≤1000:=by rw[HK.out.2.2.2];exact hs
  clear hs;have ht:Int.tmod at_ wid=at_ % wid:=Int.tmod_eq_emod_of_nonneg hp.1;have hw1:1≤wid∧wid≤8:=by rcases yD hw with rfl | rfl | rfl | rfl<;>omega
  have hwz:(wid == 0)=false:=by rw[beq_eq_false_iff_ne];omega
  have hm0:0≤at_ % wid∧at_ % wid < 8:=⟨Int.emod_nonneg _ zo,Int.lt_of_lt_of_le (Int.emod_lt_of_pos _ zo) hw1.2⟩;have hwm:IntKind.i64.wrap (at_ % wid)=at_ % wid:=by rw[IntKind.wrap_i64];omega
  obtain⟨md,hmd⟩:∃q,at_ % wid=q:=⟨_,rfl⟩;rw[hmd] at ht hwm hm0;have HMD:=zh hmd;clear hmd;have hws:IntKind.i64.wrap (at_ - wid)=at_ - wid:=by rw[IntKind.wrap_i64];omega
  have HRS:Hid (res=(zU t 6 0 0 ts && (yE d (at_ - wid) wid).2 && decide (md=0) && decide ((yE d (at_ - wid) wid).1=ts.size) && QI d at_ (VU ts))):=by show _=_;rw[← zB.out];unfold fC;rw[if_pos rfl,if_pos rfl,← HK.out.2.2.2,HMD.out]
  have hnum:=ZR d (.slice da d.length dc) (at_ - wid) wid;obtain⟨nv,hnv⟩:∃q,yE d (at_ - wid) wid=q:=⟨_,rfl⟩;rw[hnv] at HRS hnum;clear hnv;obtain⟨nv,ni⟩:=nv;simp only at HRS hnum;have HNUM:=zh hnum;clear hnum;go_wp2_with fail;refine (HNUM.out _ HD.out zp7).mono ?_;rintro r u1 ⟨rfl,hgc⟩;clear c0 c1 c2 c3;clear e0 e1 e2 e3 e4 e5;replace HD:=zh (j6.grew HD.out hgc);replace HT:=zh (jM.grew hgc HT.out);replace HRR:=zh (hgc.heap HRR.out);replace HRT:=zh (hgc.heap HRT.out);replace HG:=zh (HG.out.trans hgc);clear hgc;have e0:=jA HRT.out 0 _ rfl;have e1:=jA HRT.out 1 _ rfl;have e2:=jA HRT.out 2 _ rfl;have e3:=jA HRT.out 3 _ rfl;have e4:=jA HRT.out 4 _ rfl;have e5:=jA HRT.out 5 _ rfl;have c0:=jA HRR.out 0 _ rfl;have c1:=jA HRR.out 1 _ rfl;have c2:=jA HRR.out 2 _ rfl;have c3:=jA HRR.out 3 _ rfl;go_wp2_with fail;obtain⟨b1,hb1⟩:∃b,zU t 6 0 0 ts=b:=⟨_,rfl⟩;have hh:=vW t _ 6 0 0 ts _ HT.out;rw[hb1] at hh HRS;clear hb1;refine hh.mono ?_;clear hh;rintro r u2 ⟨rfl,hgc⟩;clear c0 c1 c2 c3;clear e0 e1 e2 e3 e4 e5;replace HD:=zh (j6.grew HD.out hgc);replace HT:=zh (jM.grew hgc HT.out);replace HRR:=zh (hgc.heap HRR.out);replace HRT:=zh (hgc.heap HRT.out);replace HG:=zh (HG.out.trans hgc);clear hgc;have e0:=jA HRT.out 0 _ rfl;have e1:=jA HRT.out 1 _ rfl;have e2:=jA HRT.out 2 _ rfl;have e3:=jA HRT.out 3 _ rfl;have e4:=jA HRT.out 4 _ rfl;have e5:=jA HRT.out 5 _ rfl;have c0:=jA HRR.out 0 _ rfl;have c1:=jA HRR.out 1 _ rfl;have c2:=jA HRR.out 2 _ rfl;have c3:=jA HRR.out 3 _ rfl;cases b1
  ·exact zb25
  cases ni
  ·exact zb25
  by_cases hm:md=0;rotate_left
  ·exact zb26
  subst hm;by_cases hn:nv=ts.size;rotate_left
  ·exact zb27
  have HV:Hid (res=QI d at_ (VU ts)):=by show _=_;rw[HRS.out,decide_eq_true hn];rfl
  subst hn;go_wp2_with fail;refine (xS d _ at_ (VU ts) _ HD.out zp7 (by rw[eB];omega)).mono ?_;rintro r u3 ⟨rfl,hgc⟩;replace HD:=zh (j6.grew HD.out hgc);replace HT:=zh (jM.grew hgc HT.out);replace HRR:=zh (hgc.heap HRR.out);replace HRT:=zh (hgc.heap HRT.out);replace HG:=zh (HG.out.trans hgc);clear hgc;clear c0 c1 c2 c3;clear e0 e1 e2 e3 e4 e5;go_wp2_with fail;go_ret;exact⟨by rw[HV.out];rfl,HG.out⟩
 ·have hb5:(typ == 5)=false:=by simpa using ht5
  have HT5:=zh ht5;clear ht5;have HD:=zh hD;have HT:=zh hn;obtain⟨da,dc,rfl,_⟩:=hD.form;obtain⟨tk,tn,tu,ts,ta4,tn4,tc4,ta5,tn5,tc5,rfl⟩:=hn.node6;obtain⟨ek,en,eu,es⟩:=ZN hn;have HK:Hid (tk=t.kind∧tn=t.fn∧tu=t.fu∧ts=t.fs):=⟨ek,en,eu,es⟩;clear hD hn ek en eu es;have HG:=zh (jD.refl w);obtain⟨res,kC⟩:∃b,fC d typ wid at_ t=b:=⟨_,rfl⟩;rw[kC];have zB:=zh kC;clear kC;go_enter func211,ntmps211;go_upto_region 1 with fail;obtain⟨pr,hpr⟩:∃N,w.heap.size=N:=⟨_,rfl⟩;have hr1:=heap_alloc_new w (.cells #[.int .i64 pos,.int .i64 par,.int .i64 typ,.int .i64 wid] 88);have hga:=(jD.refl w).alloc (.cells #[.int .i64 pos,.int .i64 par,.int .i64 typ,.int .i64 wid] 88);have hz1:(w.alloc (.cells #[.int .i64 pos,.int .i64 par,.int .i64 typ,.int .i64 wid] 88)).heap.size=pr+1:=by rw[World.size_alloc,hpr]
  generalize (w.alloc (.cells #[.int .i64 pos,.int .i64 par,.int .i64 typ,.int .i64 wid] 88))=x1 at *;rw[hpr] at hr1
  try rw[hpr]
  have HRR:=zh hr1;clear hr1 hpr;replace HD:=zh (j6.grew HD.out hga);replace HT:=zh (jM.grew hga HT.out);replace HG:=zh (HG.out.trans hga);clear hga;have hr2:=heap_alloc_new x1 (.cells #[.int .i64 tk,.int .i64 tn,.int .u64 tu,.string ts,.slice ta4 tn4 tc4,.slice ta5 tn5 tc5] 26);have hga:=(jD.refl x1).alloc (.cells #[.int .i64 tk,.int .i64 tn,.int .u64 tu,.string ts,.slice ta4 tn4 tc4,.slice ta5 tn5 tc5] 26);generalize (x1.alloc (.cells #[.int .i64 tk,.int .i64 tn,.int .u64 tu,.string ts,.slice ta4 tn4 tc4,.slice ta5 tn5 tc5] 26))=x2 at *;rw[hz1] at hr2
  try rw[hz1]
  have HRT:=zh hr2;clear hr2 hz1;replace HD:=zh (j6.grew HD.out hga);replace HT:=zh (jM.grew hga HT.out);replace HRR:=zh (hga.heap HRR.out);replace HG:=zh (HG.out.trans hga);clear hga;have c0:=jA HRR.out 0 _ rfl;have c1:=jA HRR.out 1 _ rfl;have c2:=jA HRR.out 2 _ rfl;have c3:=jA HRR.out 3 _ rfl;have e0:=jA HRT.out 0 _ rfl;have e1:=jA HRT.out 1 _ rfl;have e2:=jA HRT.out 2 _ rfl;have e3:=jA HRT.out 3 _ rfl;have e4:=jA HRT.out 4 _ rfl;have e5:=jA HRT.out 5 _ rfl;have hcs:ts.size≤1000:=by rw[HK.out.2.2.2];exact hs
  clear hs;have ht:Int.tmod at_ wid=at_ % wid:=Int.tmod_eq_emod_of_nonneg hp.1;have hw1:1≤wid∧wid≤8:=by rcases yD hw with rfl | rfl | rfl | rfl<;>omega
  have hwz:(wid == 0)=false:=by rw[beq_eq_false_iff_ne];omega
  have hm0:0≤at_ % wid∧at_ % wid < 8:=⟨Int.emod_nonneg _ zo,Int.lt_of_lt_of_le (Int.emod_lt_of_pos _ zo) hw1.2⟩;have hwm:IntKind.i64.wrap (at_ % wid)=at_ % wid:=by rw[IntKind.wrap_i64];omega
  obtain⟨md,hmd⟩:∃q,at_ % wid=q:=⟨_,rfl⟩;rw[hmd] at ht hwm hm0;have HMD:=zh hmd;clear hmd;have hws:IntKind.i64.wrap (at_ - wid)=at_ - wid:=by rw[IntKind.wrap_i64];omega
  have HRS:Hid (res=(zU t 7 0 0 ts && (yE d (at_ - wid) wid).2 && decide (md=0) && decide ((yE d (at_ - wid) wid).1=ts.size) && QI d at_ ts)):=by show _=_;rw[← zB.out];unfold fC;rw[if_neg HT5.out,if_neg HT5.out,← HK.out.2.2.2,HMD.out]
  have hnum:=ZR d (.slice da d.length dc) (at_ - wid) wid;obtain⟨nv,hnv⟩:∃q,yE d (at_ - wid) wid=q:=⟨_,rfl⟩;rw[hnv] at HRS hnum;clear hnv;obtain⟨nv,ni⟩:=nv;simp only at HRS hnum;have HNUM:=zh hnum;clear hnum;go_wp2_with fail;refine (HNUM.out _ HD.out zp7).mono ?_;rintro r u1 ⟨rfl,hgc⟩;clear c0 c1 c2 c3;clear e0 e1 e2 e3 e4 e5;replace HD:=zh (j6.grew HD.out hgc);replace HT:=zh (jM.grew hgc HT.out);replace HRR:=zh (hgc.heap HRR.out);replace HRT:=zh (hgc.heap HRT.out);replace HG:=zh (HG.out.trans hgc);clear hgc;have e0:=jA HRT.out 0 _ rfl;have e1:=jA HRT.out 1 _ rfl;have e2:=jA HRT.out 2 _ rfl;have e3:=jA HRT.out 3 _ rfl;have e4:=jA HRT.out 4 _ rfl;have e5:=jA HRT.out 5 _ rfl;have c0:=jA HRR.out 0 _ rfl;have c1:=jA HRR.out 1 _ rfl;have c2:=jA HRR.out 2 _ rfl;have c3:=jA HRR.out 3 _ rfl;go_wp2_with fail;obtain⟨b1,hb1⟩:∃b,zU t 7 0 0 ts=b:=⟨_,rfl⟩;have hh:=vW t _ 7 0 0 ts _ HT.out;rw[hb1] at hh HRS;clear hb1;refine hh.mono ?_;clear hh;rintro r u2 ⟨rfl,hgc⟩;clear c0 c1 c2 c3;clear e0 e1 e2 e3 e4 e5;replace HD:=zh (j6.grew HD.out hgc);replace HT:=zh (jM.grew hgc HT.out);replace HRR:=zh (hgc.heap HRR.out);replace HRT:=zh (hgc.heap HRT.out);replace HG:=zh (HG.out.trans hgc);clear hgc;have e0:=jA HRT.out 0 _ rfl;have e1:=jA HRT.out 1 _ rfl;have e2:=jA HRT.out 2 _ rfl;have e3:=jA HRT.out 3 _ rfl;have e4:=jA HRT.out 4 _ rfl;have e5:=jA HRT.out 5 _ rfl;have c0:=jA HRR.out 0 _ rfl;have c1:=jA HRR.out 1 _ rfl;have c2:=jA HRR.out 2 _ rfl;have c3:=jA HRR.out 3 _ rfl;cases b1
  ·exact zb25
  cases ni
  ·exact zb25
  by_cases hm:md=0;rotate_left
  ·exact zb26
  subst hm;by_cases hn:nv=ts.size;rotate_left
  ·exact zb27
  have HV:Hid (res=QI d at_ ts):=by show _=_;rw[HRS.out,decide_eq_true hn];rfl
  subst hn;go_wp2_with fail;refine (xS d _ at_ ts _ HD.out zp7 zo).mono ?_;rintro r u3 ⟨rfl,hgc⟩;replace HD:=zh (j6.grew HD.out hgc);replace HT:=zh (jM.grew hgc HT.out);replace HRR:=zh (hgc.heap HRR.out);replace HRT:=zh (hgc.heap HRT.out);replace HG:=zh (HG.out.trans hgc);clear hgc;clear c0 c1 c2 c3;clear e0 e1 e2 e3 e4 e5;go_wp2_with fail;go_ret;exact⟨by rw[HV.out];rfl,HG.out⟩
def eC:List (Int × Value):=[(10,.int .i64 10),(11,.int .i64 11),(12,.int .i64 12),(14,.int .i64 13),(36,.int .i64 14),(9,.int .i64 17)]
theorem nM (w:World):Calls prog 246 #[] w fun r w'=>∃b,r=.returned (.map (some b))∧w.heap.size≤b∧mJ w' b eC∧jD w w':=by
 go_enter func246,ntmps246;have hmk:=@run_makeMap prog;have HB:Hid (mJ (w.alloc (.map #[] 0)) w.heap.size []):=(MapKept.heap_alloc w _).1;have HG:Hid (jD w (w.alloc (.map #[] 0))):=(jD.refl w).alloc _;go_wp2_with (refine bJ _ underlying198 underlying3 rfl _ _ _ rfl w.heap.size _ rfl HB.out _ rfl _ rfl (by rfl) ?_;intro w' hb' hbel _;replace HB:=zh hb';replace HG:=zh (Below.trans HG.out (hbel w.heap.size (Nat.le_refl _)));clear hb' hbel);go_ret;exact⟨_,rfl,Nat.le_refl _,HB.out,HG.out⟩
def fF (k:Nat):Value:=.func (.func k) #[] #[]
def bS:List (Int × Value):=[(0,fF 206),(1,fF 207),(2,fF 208),(26,fF 209),(4,fF 210),(5,fF 211),(25,fF 211),(6,fF 212),(7,fF 212)]
theorem CY (w:World):Calls prog 171 #[] w fun r w'=>∃b,r=.returned (.map (some b))∧w.heap.size≤b∧mJ w' b bS∧jD w w':=by
 go_enter func171,ntmps171;have hmk:=@run_makeMap prog;have HB:Hid (mJ (w.alloc (.map #[] 0)) w.heap.size []):=(MapKept.heap_alloc w _).1;have HG:Hid (jD w (w.alloc (.map #[] 0))):=(jD.refl w).alloc _;go_wp2_with (refine bJ _ underlying209 underlying3 rfl _ _ _ rfl w.heap.size _ rfl HB.out _ rfl _ rfl (by rfl) ?_;intro w' hb' hbel _;replace HB:=zh hb';replace HG:=zh (Below.trans HG.out (hbel w.heap.size (Nat.le_refl _)));clear hb' hbel);go_ret;exact⟨_,rfl,Nat.le_refl _,HB.out,HG.out⟩
def kA (t:Int):Int × Int:=if t=10 then (10,0) else if t=11 then (11,0) else if t=12 then (12,0) else if t=14 then (13,0) else if t=36 then (14,0) else if t=9 then (17,0) else if (Ft.elemF t).1=1 then (15,(Ft.elemF t).2.1) else (16,(Ft.elemF t).2.1)
def zG (t:Int):Int:=if t=9 then 3 else if t=4∨t=6∨t=7∨0 < (Ft.elemF t).2.1 then 0 else 1
theorem CZ (t:Int) (w:World):Calls prog 174 #[.int .i64 t] w fun r w'=>r=.returned (.int .i64 (zG t))∧jD w w':=by
 have hel:=Ft.elem_any t w;unfold zG;generalize Ft.elemF t=el at *;obtain⟨e1,e2,e3⟩:=el;simp only at hel⊢;obtain⟨res,kC⟩:∃b,(if t=9 then (3:Int) else if t=4∨t=6∨t=7∨0 < e2 then 0 else 1)=b:=⟨_,rfl⟩;rw[kC];have HEL:=zh hel;have zB:=zh kC;clear hel kC;by_cases h9:t=9
 ·have HV:Hid (res=3):=by show _=_;rw[← zB.out,if_pos h9]
  subst h9;go_enter func174,ntmps174;go_wp2_with fail;refine HEL.out.mono ?_;rintro r w1 ⟨rfl,hg⟩;have HG:=zh hg;clear hg;go_wp2_with fail;go_ret;exact⟨by rw[HV.out];rfl,HG.out⟩
 have b9:(t == 9)=false:=by simpa using h9
 by_cases h4:t=4
 ·have HV:Hid (res=0):=by show _=_;rw[← zB.out,if_neg h9,if_pos zo]
  clear h9 b9;subst h4;go_enter func174,ntmps174;go_wp2_with fail;refine HEL.out.mono ?_;rintro r w1 ⟨rfl,hg⟩;have HG:=zh hg;clear hg;go_wp2_with fail;go_ret;exact⟨by rw[HV.out];rfl,HG.out⟩
 have b4:(t == 4)=false:=by simpa using h4
 by_cases h6:t=6
 ·have HV:Hid (res=0):=by show _=_;rw[← zB.out,if_neg h9,if_pos zo]
  clear h9 b9 h4 b4;subst h6;go_enter func174,ntmps174;go_wp2_with fail;refine HEL.out.mono ?_;rintro r w1 ⟨rfl,hg⟩;have HG:=zh hg;clear hg;go_wp2_with fail;go_ret;exact⟨by rw[HV.out];rfl,HG.out⟩
 have b6:(t == 6)=false:=by simpa using h6
 by_cases h7:t=7
 ·have HV:Hid (res=0):=by show _=_;rw[← zB.out,if_neg h9,if_pos zo]
  clear h9 b9 h4 b4 h6 b6;subst h7;go_enter func174,ntmps174;go_wp2_with fail;refine HEL.out.mono ?_;rintro r w1 ⟨rfl,hg⟩;have HG:=zh hg;clear hg;go_wp2_with fail;go_ret;exact⟨by rw[HV.out];rfl,HG.out⟩
 have b7:(t == 7)=false:=by simpa using h7
 by_cases h0:0 < e2
 ·have HV:Hid (res=0):=by show _=_;rw[← zB.out,if_neg h9,if_pos zo]
  clear h9 h4 h6 h7;go_enter func174,ntmps174;go_wp2_with fail;refine HEL.out.mono ?_;rintro r w1 ⟨rfl,hg⟩;have HG:=zh hg;clear hg;go_wp2_with fail;go_ret;exact⟨by rw[HV.out];rfl,HG.out⟩
 have HV:Hid (res=1):=by show _=_;rw[← zB.out,if_neg h9,if_neg zo]
 clear h9 h4 h6 h7;go_enter func174,ntmps174;go_wp2_with fail;refine HEL.out.mono ?_;rintro r w1 ⟨rfl,hg⟩;have HG:=zh hg;clear hg;go_wp2_with fail;go_ret;exact⟨by rw[HV.out];rfl,HG.out⟩
section
variable {P:Program} {mt kt et:TypeId}
theorem FG (w:World) (hmt:P.underlying mt=some (.map kt et)) (hkt:P.underlying kt=some (.int .i64)) {z:Value} (hz:(zeroValue et).run P w=.ok z w) (r:Nat) (l:List (Int × Value)) (hb:mJ w r l) (k:Int) :
 (Instr.lookup mt (.map (some r)) (.int .i64 k) true).run P w=.ok (match ZZ k l 0 with | some q=>.tuple #[q.2,.bool true] | none=>.tuple #[z,.bool false]) w:=by
 have hf:=MapKept.run_findKey (w:=w) hkt (cQ k l 0 0);have hc:=fun e=>MapKept.run_checkKey (w:=w) (k:=.int .i64 k) hkt wY e 9999
 cases hq:ZZ k l 0 with
 | none=>rw[hq] at hf;simp[Instr.lookup,run_underlying hmt,MapKept.run_getObj_map hb,hc,hf,Result.andThen,Sem.run_pure,Sem.run_bind,hz]
 | some q=>rw[hq] at hf;simp[Instr.lookup,run_underlying hmt,MapKept.run_getObj_map hb,hc,hf,Result.andThen,Sem.run_pure,Sem.run_bind]
end
theorem xU (t:Int):(∃j kd,ZZ t eC 0=some (j,.int .i64 kd)∧kA t=(kd,0))∨(ZZ t eC 0=none∧kA t=if (Ft.elemF t).1=1 then (15,(Ft.elemF t).2.1) else (16,(Ft.elemF t).2.1)):=by
 unfold kA;by_cases h1:t=10
 ·subst h1;exact .inl ⟨_,_,rfl,rfl⟩
 by_cases h2:t=11
 ·subst h2;exact .inl ⟨_,_,rfl,rfl⟩
 by_cases h3:t=12
 ·subst h3;exact .inl ⟨_,_,rfl,rfl⟩
 by_cases h4:t=14
 ·subst h4;exact .inl ⟨_,_,rfl,rfl⟩
 by_cases h5:t=36
 ·subst h5;exact .inl ⟨_,_,rfl,rfl⟩
 by_cases h6:t=9
 ·subst h6;exact .inl ⟨_,_,rfl,rfl⟩
 refine .inr ⟨?_,?_⟩
 ·simp only[eC,ZZ];rw[if_neg h1,if_neg h2,if_neg h3,if_neg h4,if_neg h5,if_neg h6]
 ·rw[if_neg h1,if_neg h2,if_neg h3,if_neg h4,if_neg h5,if_neg h6]
theorem aN (t:Int) (w:World):Calls prog 213 #[.int .i64 t] w fun r w'=>r=.returned (.tuple #[.int .i64 (kA t).1,.int .i64 (kA t).2])∧jD w w':=by
 have hz:∀w,(zeroValue 3).run prog w=.ok (.int .i64 0) w:=fun w=>by kernel_rfl
 have HEL:=zh (Ft.elem_any t);rcases xU t with ⟨j,kd,hf,hs⟩|⟨hf,hs⟩
 ·have HF:=zh hf;have HS:=zh hs;clear hs hf;go_enter func213,ntmps213;go_wp2_with fail;refine (nM w).mono ?_;rintro r w1 ⟨b,rfl,_,hm,hg⟩;have hlk:=FG w1 underlying198 underlying3 (hz w1) b eC hm t;rw[HF.out] at hlk;simp only at hlk;have HG:=zh hg;clear hg hm;go_wp2_with fail
  go_ret2
  exact⟨by rw[HS.out];rfl,HG.out⟩
 ·generalize Ft.elemF t=el at *;obtain⟨e1,e2,e3⟩:=el;simp only at HEL hs;have HS:=zh hs;have HF:=zh hf;clear hs hf;go_enter func213,ntmps213;go_wp2_with fail;refine (nM w).mono ?_;rintro r w1 ⟨b,rfl,_,hm,hg⟩;have hlk:=FG w1 underlying198 underlying3 (hz w1) b eC hm t;rw[HF.out] at hlk;simp only at hlk;have HG:=zh hg;clear hg hm;go_wp2_with fail;refine (HEL.out w1).mono ?_;rintro r w2 ⟨rfl,hg2⟩;have HG2:=zh (HG.out.trans hg2);clear hg2;by_cases h1:e1=1
  ·have hb:(e1 == 1)=true:=by simpa using h1
   have HV:=zh h1;clear h1;go_wp2_with fail
   go_ret2
   exact⟨by rw[HS.out,if_pos HV.out];rfl,HG2.out⟩
  ·have hb:(e1 == 1)=false:=by simpa using h1
   have HV:=zh h1;clear h1;go_wp2_with fail
   go_ret2
   exact⟨by rw[HS.out,if_neg HV.out];rfl,HG2.out⟩
def JY (d:List UInt8) (typ pos par wid at_:Int) (t:Tr):Bool:=
 if typ=0 then iI d pos par t else if typ=1 then intF d pos par t else if typ=2 then iJ d pos par t else if typ=26 then nJ d pos par t
 else if typ=4 then iK d at_ t else if typ=5∨typ=25 then fC d typ wid at_ t else Y5 d typ wid at_ t
def YW (typ:Int):Bool:=decide (typ=0) || decide (typ=1) || decide (typ=2) || decide (typ=26)
def K5 (typ:Int):Bool:=decide (typ=4) || decide (typ=5) || decide (typ=25) || decide (typ=6) || decide (typ=7)
def bT (d:List UInt8) (typ pos par wid lim:Int):Bool:=
 (yE d pos par).2 && decide ((yE d pos par).1≤pos) && decide (pos - (yE d pos par).1 - zG typ*wid < lim)
def eD:List ByteArray→Bool
 | []=>true
 | [_]=>true
 | a::b::r=>ltS a b && eD (b::r)
def cT (d:List UInt8) (pos w lim:Int) (k:ByteArray):Bool:=bT d 4 pos w w lim && decide (vG k=0) && QI d (pos - (yE d pos w).1) (VU k)
def YH (d:List UInt8) (w at_:Int):Nat→List ByteArray→Bool
 | _,[]=>true
 | i,k::r=>cT d (at_+i*w) w (at_ - w) k && YH d w at_ (i+1) r
def VW (d:List UInt8) (w at_:Int) (l:List ByteArray):Bool:=
 decide (at_ % w=0) && decide (at_+l.length*w≤d.length) && ((yE d (at_ - w) w).2 && decide ((yE d (at_ - w) w).1=l.length)) && YH d w at_ 0 l
def cU (d:List UInt8) (first w:Int) (l:List ByteArray):Bool:=
 (yE d first w).2 && (yE d (first+w) w).2 && isW (yE d (first+w) w).1 && decide ((yE d first w).1≤first) && decide (first - (yE d first w).1 - (yE d (first+w) w).1 < first) && eD l &&
  VW d (yE d (first+w) w).1 (first - (yE d first w).1) l
def qY (kd:Int):Bool:=decide (kd=10) || decide (kd=17)
def iN (d:List UInt8) (typ w at_:Int):Tr→Bool
 | .mk k n u s keys l=>
  decide (k=(kA typ).1) && decide (n=0) && decide (u=0) && decide (s=EMB) && (decide ((kA typ).1=17) || decide (keys.length=0)) && decide (at_ % w=0) &&
   decide (at_+l.length*w+(if qY (kA typ).1=true then (l.length:Int) else 0)≤d.length) &&
   (if (kA typ).2=0 then (yE d (at_ - w) w).2 && decide ((yE d (at_ - w) w).1=l.length) else decide ((l.length:Int)=(kA typ).2)) &&
   (if (kA typ).1=17 then decide (0≤at_ - 3*w) && decide (keys.length=l.length) && cU d (at_ - 3*w) w keys else true)
def JC (typ w at_:Int):Int:=if (kA typ).1=17 then at_ - 3*w else if (kA typ).2=0 then at_ - w else at_
def vI (d:List UInt8) (typ w at_ n:Int) (i:Nat):Int × Int × Int:=
 if qY (kA typ).1=true then Ft.unpackF ((d[(at_+n*w+i).toNat]?).getD 0).toNat else ((Ft.elemF typ).1,w,0)
mutual
def J5 (d:List UInt8) (typ pos par wid lim:Int):Tr→Bool
 | .mk k n u s keys l=>
  if (isW par && isW wid && Ft.legalB typ)=false then false
  else if Ft.inlineB typ=true then JY d typ pos par wid 0 (.mk k n u s keys l)
  else if bT d typ pos par wid lim=false then false
  else if K5 typ=true then JY d typ pos par wid (pos - (yE d pos par).1) (.mk k n u s keys l)
  else iN d typ wid (pos - (yE d pos par).1) (.mk k n u s keys l) && vO d typ wid (pos - (yE d pos par).1) l.length 0 l
def vO (d:List UInt8) (typ w at_ n:Int):Nat→List Tr→Bool
 | _,[]=>true
 | i,x::r=>(decide ((vI d typ w at_ n i).2.2=0) && J5 d (vI d typ w at_ n i).1 (at_+i*w) w (vI d typ w at_ n i).2.1 (JC typ w at_) x) && vO d typ w at_ n (i+1) r
end
def JH (d:List UInt8) (typ w at_:Int) (t:Tr):Bool:=iN d typ w at_ t && vO d typ w at_ t.kids.length 0 t.kids
theorem aO (d:List UInt8) (typ pos par wid lim:Int) (t:Tr):J5 d typ pos par wid lim t =
 if (isW par && isW wid && Ft.legalB typ)=false then false else if Ft.inlineB typ=true then JY d typ pos par wid 0 t else if bT d typ pos par wid lim=false then false
 else if K5 typ=true then JY d typ pos par wid (pos - (yE d pos par).1) t else JH d typ wid (pos - (yE d pos par).1) t:=by
 cases t;simp only[J5,JH,Tr.kids]
def okS:Tr→Prop | .mk k n u s keys l=>s.size≤1000∧(∀x∈keys,x.size≤1000)∧keys.length≤4096∧l.length≤4096∧∀x,x∈l→okS x
decreasing_by
 rename_i h;have:=List.sizeOf_lt_of_mem h;simp only[Tr.mk.sizeOf_spec];omega
theorem xV (t:Int) (h:(Ft.kindOf t).1≠0):0≤t∧t≤36:=Ft.legal_range (t:=t) (by unfold Ft.legalB;exact decide_eq_true h)
theorem ZS (t:Int):Ft.inlineB t=YW t:=by
 by_cases h:0≤t∧t≤36
 ·obtain⟨k,rfl⟩:=Int.eq_ofNat_of_zero_le h.1;have hk:k < 37:=by omega
  have:∀k:Fin 37,Ft.inlineB ((k:Nat):Int)=YW ((k:Nat):Int):=by decide +kernel
  exact this ⟨k,hk⟩
 ·have h1:YW t=false:=by unfold YW;rw[decide_eq_false zo,decide_eq_false zo,decide_eq_false zo,decide_eq_false zo];rfl
  rw[h1];unfold Ft.inlineB;refine decide_eq_false fun h2=>h (xV t zo)
theorem xW (t:Int) (h:Ft.legalB t=true) (hn:YW t=false) (hf:K5 t=false):ZZ t bS 0=none:=by
 have h2:t≠0∧t≠1∧t≠2∧t≠26:=by
  unfold YW at hn;simp only[Bool.or_eq_false_iff,decide_eq_false_iff_not] at hn;exact⟨hn.1.1.1,hn.1.1.2,hn.1.2,hn.2⟩
 have h3:t≠4∧t≠5∧t≠25∧t≠6∧t≠7:=by
  unfold K5 at hf;simp only[Bool.or_eq_false_iff,decide_eq_false_iff_not] at hf;exact⟨hf.1.1.1.1,hf.1.1.1.2,hf.1.1.2,hf.1.2,hf.2⟩
 simp only[bS,ZZ];rw[if_neg h2.1,if_neg h2.2.1,if_neg h2.2.2.1,if_neg h2.2.2.2,if_neg h3.1,if_neg h3.2.1,if_neg h3.2.2.1,if_neg h3.2.2.2.1,if_neg h3.2.2.2.2]
theorem tD (t:Int):0≤zG t∧zG t≤3:=by
 unfold zG
 repeat' split
 all_goals omega
theorem nN (d:List UInt8) (typ:Int) (h:YW typ=true∨K5 typ=true):∃j f,ZZ typ bS 0=some (j,fF f)∧(f=206∨f=207∨f=208∨f=209∨f=210∨f=211∨f=212)∧∀(dv:Value) (pos par wid at_:Int) (t:Tr) (tv:Value) (w:World),j6 w dv d→jM w t tv→zO pos→0≤at_∧at_≤1048576→t.fs.size≤1000→isW wid=true →
 Calls prog f #[dv,.agg #[.int .i64 pos,.int .i64 par,.int .i64 typ,.int .i64 wid],.int .i64 at_,tv] w fun r w'=>r=.returned (.bool (JY d typ pos par wid at_ t))∧jD w w':=by
 have h9:typ=0∨typ=1∨typ=2∨typ=26∨typ=4∨typ=5∨typ=25∨typ=6∨typ=7:=by
  unfold YW K5 at h;simp only[Bool.or_eq_true,decide_eq_true_eq] at h;omega
 rcases h9 with rfl|rfl|rfl|rfl|rfl|rfl|rfl|rfl|rfl
 ·exact⟨_,_,rfl,zp2,fun dv pos par wid at_ t tv w hD hn hp ha hs hw=>FD d dv pos par 0 wid at_ t tv w hD hn hp⟩
 ·exact⟨_,_,rfl,zp2,fun dv pos par wid at_ t tv w hD hn hp ha hs hw=>int_any d dv pos par 1 wid at_ t tv w hD hn hp⟩
 ·exact⟨_,_,rfl,zp2,fun dv pos par wid at_ t tv w hD hn hp ha hs hw=>FE d dv pos par 2 wid at_ t tv w hD hn hp⟩
 ·exact⟨_,_,rfl,zp2,fun dv pos par wid at_ t tv w hD hn hp ha hs hw=>FF d dv pos par 26 wid at_ t tv w hD hn hp⟩
 ·exact⟨_,_,rfl,zp2,fun dv pos par wid at_ t tv w hD hn hp ha hs hw=>key_any d dv pos par 4 wid at_ t tv w hD hn ha hs⟩
 ·exact⟨_,_,rfl,zp2,fun dv pos par wid at_ t tv w hD hn hp ha hs hw=>nL d dv pos par 5 wid at_ t tv w hD hn ha hs hw⟩
 ·exact⟨_,_,rfl,zp2,fun dv pos par wid at_ t tv w hD hn hp ha hs hw=>nL d dv pos par 25 wid at_ t tv w hD hn ha hs hw⟩
 ·exact⟨_,_,rfl,zp2,fun dv pos par wid at_ t tv w hD hn hp ha hs hw=>iL d dv pos par 6 wid at_ t tv w hD hn ha hw⟩
 ·exact⟨_,_,rfl,zp2,fun dv pos par wid at_ t tv w hD hn hp ha hs hw=>iL d dv pos par 7 wid at_ t tv w hD hn ha hw⟩
theorem okS_eq' (k n u:Int) (s:ByteArray) (keys:List ByteArray) (l:List Tr):okS (.mk k n u s keys l)↔s.size≤1000∧(∀x∈keys,x.size≤1000)∧keys.length≤4096∧l.length≤4096∧∀x,x∈l→okS x:=by rw[okS]
def cutF (t:Tr):Tr:=(vT 60 (80 - 1) t).1
theorem C1 (t:Tr):(cutF t).size≤80:=by unfold cutF;have:=bQ 60 t (80 - 1);omega
theorem KE (n:Int) (w:World):Calls prog 28 #[.int .i64 n] w fun r w'=>r=.returned (.agg #[.int .i64 3,.int .i64 n,.int .u64 0,.string ⟨#[]⟩,.slice none 0 0,.slice none 0 0])∧jD w w':=by
 go_enter func28,ntmps28;go_wp2_with fail;have hb:=heap_alloc_new w (.cells #[.int .i64 3,.int .i64 n,.int .u64 0,.string ⟨#[]⟩,.slice none 0 0,.slice none 0 0] 26);have hg:=(jD.refl w).alloc (.cells #[.int .i64 3,.int .i64 n,.int .u64 0,.string ⟨#[]⟩,.slice none 0 0,.slice none 0 0] 26);have z0:=jA hb 0 _ rfl;have z1:=jA hb 1 _ rfl;have z2:=jA hb 2 _ rfl;have z3:=jA hb 3 _ rfl;have z4:=jA hb 4 _ rfl;have z5:=jA hb 5 _ rfl;refine bodyPost_ret (v:=.agg #[.int .i64 3,.int .i64 n,.int .u64 0,.string ⟨#[]⟩,.slice none 0 0,.slice none 0 0]) (by simp[results,results28,go_sem,z0,z1,z2,z3,z4,z5]) rfl ?_;exact⟨rfl,hg⟩
theorem C2 (n:Int) (w:World):Calls prog 29 #[.int .u64 n] w fun r w'=>r=.returned (.agg #[.int .i64 4,.int .i64 0,.int .u64 n,.string ⟨#[]⟩,.slice none 0 0,.slice none 0 0])∧jD w w':=by
 go_enter func29,ntmps29;go_wp2_with fail;have hb:=heap_alloc_new w (.cells #[.int .i64 4,.int .i64 0,.int .u64 n,.string ⟨#[]⟩,.slice none 0 0,.slice none 0 0] 26);have hg:=(jD.refl w).alloc (.cells #[.int .i64 4,.int .i64 0,.int .u64 n,.string ⟨#[]⟩,.slice none 0 0,.slice none 0 0] 26);have z0:=jA hb 0 _ rfl;have z1:=jA hb 1 _ rfl;have z2:=jA hb 2 _ rfl;have z3:=jA hb 3 _ rfl;have z4:=jA hb 4 _ rfl;have z5:=jA hb 5 _ rfl;refine bodyPost_ret (v:=.agg #[.int .i64 4,.int .i64 0,.int .u64 n,.string ⟨#[]⟩,.slice none 0 0,.slice none 0 0]) (by simp[results,results29,go_sem,z0,z1,z2,z3,z4,z5]) rfl ?_;exact⟨rfl,hg⟩
theorem bU (s:ByteArray) (w:World):Calls prog 53 #[.string s] w fun r w'=>r=.returned (.agg #[.int .i64 6,.int .i64 0,.int .u64 0,.string s,.slice none 0 0,.slice none 0 0])∧jD w w':=by
 go_enter func53,ntmps53;go_wp2_with fail;have hb:=heap_alloc_new w (.cells #[.int .i64 6,.int .i64 0,.int .u64 0,.string s,.slice none 0 0,.slice none 0 0] 26);have hg:=(jD.refl w).alloc (.cells #[.int .i64 6,.int .i64 0,.int .u64 0,.string s,.slice none 0 0,.slice none 0 0] 26);have z0:=jA hb 0 _ rfl;have z1:=jA hb 1 _ rfl;have z2:=jA hb 2 _ rfl;have z3:=jA hb 3 _ rfl;have z4:=jA hb 4 _ rfl;have z5:=jA hb 5 _ rfl;refine bodyPost_ret (v:=.agg #[.int .i64 6,.int .i64 0,.int .u64 0,.string s,.slice none 0 0,.slice none 0 0]) (by simp[results,results53,go_sem,z0,z1,z2,z3,z4,z5]) rfl ?_;exact⟨rfl,hg⟩
theorem YI (k:Int) (a5:Option Addr) (n5 c5:Nat) (w:World):Calls prog 27 #[.int .i64 k,.slice a5 n5 c5] w fun r w'=>r=.returned (.agg #[.int .i64 k,.int .i64 0,.int .u64 0,.string ⟨#[]⟩,.slice none 0 0,.slice a5 n5 c5])∧jD w w':=by
 go_enter func27,ntmps27;go_wp2_with fail;have hb:=heap_alloc_new w (.cells #[.int .i64 k,.int .i64 0,.int .u64 0,.string ⟨#[]⟩,.slice none 0 0,.slice a5 n5 c5] 26);have hg:=(jD.refl w).alloc (.cells #[.int .i64 k,.int .i64 0,.int .u64 0,.string ⟨#[]⟩,.slice none 0 0,.slice a5 n5 c5] 26);have z0:=jA hb 0 _ rfl;have z1:=jA hb 1 _ rfl;have z2:=jA hb 2 _ rfl;have z3:=jA hb 3 _ rfl;have z4:=jA hb 4 _ rfl;have z5:=jA hb 5 _ rfl;refine bodyPost_ret (v:=.agg #[.int .i64 k,.int .i64 0,.int .u64 0,.string ⟨#[]⟩,.slice none 0 0,.slice a5 n5 c5]) (by simp[results,results27,go_sem,z0,z1,z2,z3,z4,z5]) rfl ?_;exact⟨rfl,hg⟩
theorem fE (a4:Option Addr) (n4 c4:Nat) (a5:Option Addr) (n5 c5:Nat) (w:World):Calls prog 54 #[.slice a4 n4 c4,.slice a5 n5 c5] w fun r w'=>r=.returned (.agg #[.int .i64 17,.int .i64 0,.int .u64 0,.string ⟨#[]⟩,.slice a4 n4 c4,.slice a5 n5 c5])∧jD w w':=by
 go_enter func54,ntmps54;go_wp2_with fail;have hb:=heap_alloc_new w (.cells #[.int .i64 17,.int .i64 0,.int .u64 0,.string ⟨#[]⟩,.slice a4 n4 c4,.slice a5 n5 c5] 26);have hg:=(jD.refl w).alloc (.cells #[.int .i64 17,.int .i64 0,.int .u64 0,.string ⟨#[]⟩,.slice a4 n4 c4,.slice a5 n5 c5] 26);have z0:=jA hb 0 _ rfl;have z1:=jA hb 1 _ rfl;have z2:=jA hb 2 _ rfl;have z3:=jA hb 3 _ rfl;have z4:=jA hb 4 _ rfl;have z5:=jA hb 5 _ rfl;refine bodyPost_ret (v:=.agg #[.int .i64 17,.int .i64 0,.int .u64 0,.string ⟨#[]⟩,.slice a4 n4 c4,.slice a5 n5 c5]) (by simp[results,results54,go_sem,z0,z1,z2,z3,z4,z5]) rfl ?_;exact⟨rfl,hg⟩
end Go.Proofs.YtdjoffgkndncfaaGreat
