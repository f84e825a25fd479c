/-Texts-/
import Derived.Test.YtdjoffgkndncfaaGreatDOtherPAP
import Derived.Laws.BytesArg
set_option linter.unusedVariables false
set_option linter.unusedSimpArgs false
set_option maxHeartbeats 16000000
set_option maxRecDepth 100000
namespace Go.Proofs.YtdjoffgkndncfaaGreat
open Go.Proofs.Tryz
open Go Go.ChangeShapes Go.WideShapes Go.ChangeAt Go.RowKit Go.Joins Go.Deep
theorem uV (x:List UInt8) (bl off c n:Nat) (w:World) (hn:x.length=n) (h:zK w (.slice (some ⟨bl,off,none⟩) n c) x):(convert 156 9 (.slice (some ⟨bl,off,none⟩) n c)).run prog w=.ok (.string ⟨x.toArray⟩) w:=by
 subst hn;obtain⟨a,c',e,_,_,h4⟩:=h;cases e
 have:=run_convert_bytes_arg (P:=prog) w 156 5 underlying156 underlying5 bl off x.length c (x.map λb=>(b.toNat:Int)) zp2 (λi hi=>by
  obtain⟨b,o,e,hc⟩:=h4 i x[i] (za hi);cases e;rw[hc]
  simp[zw,hi]) 9 underlying9
 rw[this];congr 2;unfold strOfNums;simp[Function.comp_def]
theorem str_of (s:ByteArray) (x:List UInt8):(x == s.toList)=decide (x=s.data.toList):=by
 rw[ByteArray.toList_eq];by_cases h:x=s.data.toList
 ·rw[qt h];simp[h]
 rw[decide_eq_false h];simpa using h
theorem BM (d:List UInt8) (dv:Value) (at_:Int) (s:ByteArray) (w:World) (hD:j6 w dv d) (ha:kY at_) (hs:s.size≤1048576):Calls prog 245 #[dv,.int .i64 at_,.string s] w λr w'=>r=.returned (.bool (ZI d at_ s))∧jC w w':=by
 have HD:=zh hD;have hdl:=hD.2.1;obtain⟨da,dc,rfl,hdc⟩:=hD.form;by_cases h0:0≤at_;rotate_left
 ·have HF:Hid (ZI d at_ s=false):=by show _=_;unfold ZI;rw[decide_eq_false h0];rfl
  rw[HF];have h1:at_ < 0:=by omega
  clear h0 hD;go_enter func245,ntmps245;go_wp2;go_ret;exact⟨rfl,jC.refl _⟩
 have hw1:kY ((d.length:Int) - at_):=by unfold kY at ha⊢;omega
 by_cases h1:(s.size:Int)≤d.length - at_;rotate_left
 ·have HF:Hid (ZI d at_ s=false):=by show _=_;unfold ZI;rw[qt h0,decide_eq_false h1];rfl
  rw[HF];have hwr:IntKind.i64.wrap ((d.length:Int) - at_)=(d.length:Int) - at_:=by rw[zy];unfold kY at hw1;omega
  clear hD hw1;go_enter func245,ntmps245;go_wp2;go_ret;exact⟨rfl,jC.refl _⟩
 obtain⟨k,rfl⟩:=Int.eq_ofNat_of_zero_le h0;have hk:k+s.size≤d.length:=by omega
 have HF:Hid (ZI d (k:Int) s=decide ((d.drop k).take s.size=s.data.toList)):=by show _=_;unfold ZI;rw[qt h0,qt h1];rfl
 rw[HF];have hb:=hD.1;clear hD hw1 ha
 cases da with
 | none=>
  obtain⟨a,c',e,h3,h4,_⟩:=hb;cases e;have hc0:=h4 rfl;subst hc0;have hd0:d=[]:=List.length_eq_zero_iff.1 zo;subst hd0;have hs0:s.size=0:=by simp at hk;omega
  have hk0:k=0:=by simp at hk;omega
  subst hk0
  have hse:s=⟨#[]⟩:=by
   obtain⟨⟨l⟩⟩:=s;simp[ByteArray.size] at hs0;rw[hs0]
  subst hse
  have hcv:(convert 156 9 (.slice none 0 0)).run prog w=.ok (.string ⟨#[]⟩) w:=by
   rw[run_convert_bytes_string w _ _ _ _ _ _ underlying156 underlying5 underlying9];rfl
  have hse:((⟨#[]⟩:ByteArray).toList == (⟨#[]⟩:ByteArray).toList)=true:=by decide +kernel
  clear h3 h4 HF hdl hdc HD h0 hs hs0 h1 hk;show Calls prog 245 #[.slice none 0 0,.int .i64 0,.string ⟨#[]⟩] w λr w'=>r=.returned (.bool true)∧jC w w';go_enter func245,ntmps245;go_wp2;go_ret;exact⟨rfl,jC.refl _⟩
 | some ad=>
  obtain⟨bl,off,he⟩:∃bl off,ad=⟨bl,off,none⟩:=(HD.2.2 ad _ _ rfl).2;subst he;clear HF HD;have hst:=str_of s ((d.drop k).take s.size);have hw1:IntKind.i64.wrap ((d.length:Int) - (k:Int))=(d.length:Int) - (k:Int):=by rw[zy];omega
  have hw2:IntKind.i64.wrap ((k:Int)+(s.size:Int))=(k:Int)+(s.size:Int):=by rw[zy];omega
  have hkd:(k:Int)+(s.size:Int)≤dc:=by omega
  by_cases hkc:k < dc
  ·have hcv:=uV ((d.drop k).take s.size) bl (off+k) (dc - k) s.size w zp6 (oT hb k s.size (dc - k) hk zo);generalize (d.drop k).take s.size=z at *;generalize decide (z=s.data.toList)=bz at *;clear hb;go_enter func245,ntmps245;go_wp2;go_ret;exact⟨by rw[← hst];rfl,jC.refl _⟩
  have hs0:s.size=0:=by omega
  have hz:(d.drop k).take s.size=[]:=by rw[hs0];simp
  have hcv:(convert 156 9 (.slice (some ⟨bl,off,none⟩) 0 0)).run prog w=.ok (.string ⟨((d.drop k).take s.size).toArray⟩) w:=by
   rw[hz];exact uV [] bl off 0 0 w rfl ⟨some ⟨bl,off,none⟩,0,by simp,by simp,λh=>gN,λi b h=>by simp at h⟩
  generalize (d.drop k).take s.size=z at *;generalize decide (z=s.data.toList)=bz at *;clear hb hz;have hkd2:k=dc:=by omega
  subst hkd2;clear hs0 hkc;go_enter func245,ntmps245;go_wp2;go_ret;exact⟨by rw[← hst];rfl,jC.refl _⟩
theorem BN (d:List UInt8) (dv:Value) (pos par typ wid:Int) (w:World) (hD:j6 w dv d) (hp:kY pos):Calls prog 243 #[dv,.agg #[.int .i64 pos,.int .i64 par,.int .i64 typ,.int .i64 wid]] w λr w'=>r=.returned (.bool (decide ((k7 d pos par).2=0)))∧jC w w':=by
 have HD:=zh hD;obtain⟨da,dc,rfl,_⟩:=hD.form;clear hD;have HG:=zh (jC.refl w);have HLD:Hid (∀w',j6 w' (.slice da d.length dc) d→Calls prog 216 #[.slice da d.length dc,.int .i64 pos,.int .i64 par] w' λr w2=>r=.returned (.tuple #[.int .u64 (k7 d pos par).1,.int .i64 (k7 d pos par).2])∧jC w' w2):=λw' h=>QT _ d h.1 (by have:=h.2.1;omega) pos par hp (λad n c e=>(h.2.2 ad n c e).1);generalize k7 d pos par=q at *;obtain⟨lu,le⟩:=q;simp only at HLD⊢;obtain⟨res,j7⟩:∃b,decide (le=0)=b:=⟨_,rfl⟩;rw[j7];have zJ:=zh j7;clear j7;go_enter func243,ntmps243;go_upto_region 1 with fail;obtain⟨pr,hpr⟩:∃N,w.heap.size=N:=⟨_,rfl⟩;obtain⟨hr1,hga⟩:=sqal w (.cells #[.int .i64 pos,.int .i64 par,.int .i64 typ,.int .i64 wid] 88);have hz1:(w.alloc (.cells #[.int .i64 pos,.int .i64 par,.int .i64 typ,.int .i64 wid] 88)).heap.size=pr+1:=by rw[zm,hpr]
 generalize w.alloc _=x1 at *;rw[hpr] at hr1
 try rw[hpr]
 have HRR:=zh hr1;clear hr1 hpr;replace HD:=zh (j6.grew HD.out hga);replace HG:=zh (HG.trans hga);clear hga;clear hz1;obtain⟨c0,c1,c2,c3⟩:=sqr4 HRR;go_wp2_with fail;refine (HLD.out _ HD.out).mono ?_;rintro r u1 ⟨rfl,hgc⟩;replace HD:=zh (j6.grew HD.out hgc);replace HRR:=zh (hgc.heap HRR.out);replace HG:=zh (HG.trans hgc);clear hgc;by_cases hle:le=0
 ·have hb:(le == 0)=true:=by simpa using hle
  have HV:Hid (res=true):=by show _=_;rw[← zJ.out,qt hle]
  clear hle;go_wp2;go_ret;exact⟨by rw[HV];rfl,HG.out⟩
 have hb:(le == 0)=false:=by simpa using hle
 have HV:Hid (res=false):=by show _=_;rw[← zJ.out,decide_eq_false hle]
 clear hle;go_wp2;go_ret;exact⟨by rw[HV];rfl,HG.out⟩
theorem LB (d:List UInt8) (dv:Value) (pos par typ wid at_:Int) (t:Tr) (tv:Value) (w:World) (hD:j6 w dv d) (hn:jM w t tv) (hp:kY pos):Calls prog 206 #[dv,.agg #[.int .i64 pos,.int .i64 par,.int .i64 typ,.int .i64 wid],.int .i64 at_,tv] w λr w'=>r=.returned (.bool (dQ d pos par t))∧jC w w':=by
 have HD:=zh hD;have HT:=zh hn;obtain⟨da,dc,rfl,_⟩:=hD.form;obtain⟨tk,tn,tu,ts,ta4,tn4,tc4,ta5,tn5,tc5,rfl⟩:=hn.node6;obtain⟨ek,en,eu,es⟩:=Z0 hn;have HK:Hid (tk=t.kind∧tn=t.fn∧tu=t.fu∧ts=t.fs):=⟨ek,en,eu,es⟩;clear hD hn ek en eu es;have HG:=zh (jC.refl w);obtain⟨res,j7⟩:∃b,dQ d pos par t=b:=⟨_,rfl⟩;rw[j7];have zJ:=zh j7;clear j7;go_enter func206,ntmps206;go_upto_region 1 with fail;obtain⟨pr,hpr⟩:∃N,w.heap.size=N:=⟨_,rfl⟩;obtain⟨hr1,hga⟩:=sqal w (.cells #[.int .i64 pos,.int .i64 par,.int .i64 typ,.int .i64 wid] 88);have hz1:(w.alloc (.cells #[.int .i64 pos,.int .i64 par,.int .i64 typ,.int .i64 wid] 88)).heap.size=pr+1:=by rw[zm,hpr]
 generalize w.alloc _=x1 at *;rw[hpr] at hr1
 try rw[hpr]
 have HRR:=zh hr1;clear hr1 hpr;replace HD:=zh (j6.grew HD.out hga);replace HT:=zh (jM.grew hga HT.out);replace HG:=zh (HG.trans hga);clear hga;obtain⟨hr2,hga⟩:=sqal x1 (.cells #[.int .i64 tk,.int .i64 tn,.int .u64 tu,.string ts,.slice ta4 tn4 tc4,.slice ta5 tn5 tc5] 26);generalize x1.alloc _=x2 at *;rw[hz1] at hr2
 try rw[hz1]
 have HRT:=zh hr2;clear hr2 hz1;replace HD:=zh (j6.grew HD.out hga);replace HT:=zh (jM.grew hga HT.out);replace HRR:=zh (hga.heap HRR.out);replace HG:=zh (HG.trans hga);clear hga;obtain⟨c0,c1,c2,c3⟩:=sqr4 HRR;obtain⟨e0,e1,e2,e3,e4,e5⟩:=sqr6 HRT;go_wp2_with fail;have hh:=BN d _ pos par typ wid _ HD.out hp;obtain⟨ins,hins⟩:∃b,decide ((k7 d pos par).2=0)=b:=⟨_,rfl⟩;rw[hins] at hh;have HIN:=zh hins;clear hins;refine hh.mono ?_;clear hh;rintro r u1 ⟨rfl,hgc⟩;clear c0 c1 c2 c3;clear e0 e1 e2 e3 e4 e5;replace HD:=zh (j6.grew HD.out hgc);replace HT:=zh (jM.grew hgc HT.out);replace HRR:=zh (hgc.heap HRR.out);replace HRT:=zh (hgc.heap HRT.out);replace HG:=zh (HG.trans hgc);clear hgc;obtain⟨e0,e1,e2,e3,e4,e5⟩:=sqr6 HRT;cases ins
 ·have HV:Hid (res=false):=by show _=_;rw[← zJ.out];unfold dQ;rw[HIN];rfl
  go_wp2;go_ret;exact⟨by rw[HV];rfl,HG.out⟩
 have HV:Hid (res=yB t 1 0 0 EMB):=by show _=_;rw[← zJ.out];unfold dQ;rw[HIN,Bool.true_and]
 go_wp2_with fail;refine (JJ t _ 1 0 0 ⟨#[]⟩ _ HT.out).mono ?_;rintro r u2 ⟨rfl,hgc⟩;replace HD:=zh (j6.grew HD.out hgc);replace HT:=zh (jM.grew hgc HT.out);replace HRR:=zh (hgc.heap HRR.out);replace HRT:=zh (hgc.heap HRT.out);replace HG:=zh (HG.trans hgc);clear hgc;clear e0 e1 e2 e3 e4 e5;go_wp2;go_ret;exact⟨by rw[HV];rfl,HG.out⟩
theorem int_any (d:List UInt8) (dv:Value) (pos par typ wid at_:Int) (t:Tr) (tv:Value) (w:World) (hD:j6 w dv d) (hn:jM w t tv) (hp:kY pos):Calls prog 207 #[dv,.agg #[.int .i64 pos,.int .i64 par,.int .i64 typ,.int .i64 wid],.int .i64 at_,tv] w λr w'=>r=.returned (.bool (sP d pos par t))∧jC w w':=by
 have HD:=zh hD;have HT:=zh hn;obtain⟨da,dc,rfl,_⟩:=hD.form;obtain⟨tk,tn,tu,ts,ta4,tn4,tc4,ta5,tn5,tc5,rfl⟩:=hn.node6;obtain⟨ek,en,eu,es⟩:=Z0 hn;have HK:Hid (tk=t.kind∧tn=t.fn∧tu=t.fu∧ts=t.fs):=⟨ek,en,eu,es⟩;clear hD hn ek en eu es;have HG:=zh (jC.refl w);obtain⟨res,j7⟩:∃b,sP d pos par t=b:=⟨_,rfl⟩;rw[j7];have zJ:=zh j7;clear j7;go_enter func207,ntmps207;go_upto_region 1 with fail;obtain⟨pr,hpr⟩:∃N,w.heap.size=N:=⟨_,rfl⟩;obtain⟨hr1,hga⟩:=sqal w (.cells #[.int .i64 pos,.int .i64 par,.int .i64 typ,.int .i64 wid] 88);have hz1:(w.alloc (.cells #[.int .i64 pos,.int .i64 par,.int .i64 typ,.int .i64 wid] 88)).heap.size=pr+1:=by rw[zm,hpr]
 generalize w.alloc _=x1 at *;rw[hpr] at hr1
 try rw[hpr]
 have HRR:=zh hr1;clear hr1 hpr;replace HD:=zh (j6.grew HD.out hga);replace HT:=zh (jM.grew hga HT.out);replace HG:=zh (HG.trans hga);clear hga;obtain⟨hr2,hga⟩:=sqal x1 (.cells #[.int .i64 tk,.int .i64 tn,.int .u64 tu,.string ts,.slice ta4 tn4 tc4,.slice ta5 tn5 tc5] 26);generalize x1.alloc _=x2 at *;rw[hz1] at hr2
 try rw[hz1]
 have HRT:=zh hr2;clear hr2 hz1;replace HD:=zh (j6.grew HD.out hga);replace HT:=zh (jM.grew hga HT.out);replace HRR:=zh (hga.heap HRR.out);replace HG:=zh (HG.trans hga);clear hga;obtain⟨c0,c1,c2,c3⟩:=sqr4 HRR;obtain⟨e0,e1,e2,e3,e4,e5⟩:=sqr6 HRT;by_cases hk:tk=3;rotate_left
 ·have hb:(tk == 3)=false:=by simpa using hk
  have HV:Hid (res=false):=by show _=_;rw[← zJ.out];unfold sP;rw[← HK.1,decide_eq_false hk];rfl
  clear hk;go_wp2;go_ret;exact⟨by rw[HV];rfl,HG.out⟩
 have HV:Hid (res=vU d pos par 3 4 t):=by show _=_;rw[← zJ.out];unfold sP;rw[← HK.1,qt hk,Bool.true_and]
 subst hk;go_wp2_with fail;refine (VC d _ pos par 3 4 t _ _ HD.out hp HT.out).mono ?_;rintro r u2 ⟨rfl,hgc⟩;replace HD:=zh (j6.grew HD.out hgc);replace HT:=zh (jM.grew hgc HT.out);replace HRR:=zh (hgc.heap HRR.out);replace HRT:=zh (hgc.heap HRT.out);replace HG:=zh (HG.trans hgc);clear hgc;clear c0 c1 c2 c3;clear e0 e1 e2 e3 e4 e5;go_wp2;go_ret;exact⟨by rw[HV];rfl,HG.out⟩
theorem LC (d:List UInt8) (dv:Value) (pos par typ wid at_:Int) (t:Tr) (tv:Value) (w:World) (hD:j6 w dv d) (hn:jM w t tv) (hp:kY pos):Calls prog 208 #[dv,.agg #[.int .i64 pos,.int .i64 par,.int .i64 typ,.int .i64 wid],.int .i64 at_,tv] w λr w'=>r=.returned (.bool (dR d pos par t))∧jC w w':=by
 have HD:=zh hD;have HT:=zh hn;obtain⟨da,dc,rfl,_⟩:=hD.form;obtain⟨tk,tn,tu,ts,ta4,tn4,tc4,ta5,tn5,tc5,rfl⟩:=hn.node6;obtain⟨ek,en,eu,es⟩:=Z0 hn;have HK:Hid (tk=t.kind∧tn=t.fn∧tu=t.fu∧ts=t.fs):=⟨ek,en,eu,es⟩;clear hD hn ek en eu es;have HG:=zh (jC.refl w);obtain⟨res,j7⟩:∃b,dR d pos par t=b:=⟨_,rfl⟩;rw[j7];have zJ:=zh j7;clear j7;go_enter func208,ntmps208;go_upto_region 1 with fail;obtain⟨pr,hpr⟩:∃N,w.heap.size=N:=⟨_,rfl⟩;obtain⟨hr1,hga⟩:=sqal w (.cells #[.int .i64 pos,.int .i64 par,.int .i64 typ,.int .i64 wid] 88);have hz1:(w.alloc (.cells #[.int .i64 pos,.int .i64 par,.int .i64 typ,.int .i64 wid] 88)).heap.size=pr+1:=by rw[zm,hpr]
 generalize w.alloc _=x1 at *;rw[hpr] at hr1
 try rw[hpr]
 have HRR:=zh hr1;clear hr1 hpr;replace HD:=zh (j6.grew HD.out hga);replace HT:=zh (jM.grew hga HT.out);replace HG:=zh (HG.trans hga);clear hga;obtain⟨hr2,hga⟩:=sqal x1 (.cells #[.int .i64 tk,.int .i64 tn,.int .u64 tu,.string ts,.slice ta4 tn4 tc4,.slice ta5 tn5 tc5] 26);generalize x1.alloc _=x2 at *;rw[hz1] at hr2
 try rw[hz1]
 have HRT:=zh hr2;clear hr2 hz1;replace HD:=zh (j6.grew HD.out hga);replace HT:=zh (jM.grew hga HT.out);replace HRR:=zh (hga.heap HRR.out);replace HG:=zh (HG.trans hga);clear hga;obtain⟨c0,c1,c2,c3⟩:=sqr4 HRR;obtain⟨e0,e1,e2,e3,e4,e5⟩:=sqr6 HRT;by_cases hk:tk=4;rotate_left
 ·have hb:(tk == 4)=false:=by simpa using hk
  have HV:Hid (res=false):=by show _=_;rw[← zJ.out];unfold dR;rw[← HK.1,decide_eq_false hk];rfl
  clear hk;go_wp2;go_ret;exact⟨by rw[HV];rfl,HG.out⟩
 have HV:Hid (res=vU d pos par 3 4 t):=by show _=_;rw[← zJ.out];unfold dR;rw[← HK.1,qt hk,Bool.true_and]
 subst hk;go_wp2_with fail;refine (VC d _ pos par 3 4 t _ _ HD.out hp HT.out).mono ?_;rintro r u2 ⟨rfl,hgc⟩;replace HD:=zh (j6.grew HD.out hgc);replace HT:=zh (jM.grew hgc HT.out);replace HRR:=zh (hgc.heap HRR.out);replace HRT:=zh (hgc.heap HRT.out);replace HG:=zh (HG.trans hgc);clear hgc;clear c0 c1 c2 c3;clear e0 e1 e2 e3 e4 e5;go_wp2;go_ret;exact⟨by rw[HV];rfl,HG.out⟩
theorem YQ (s:ByteArray):(YG s).size=s.size+1:=by simp[YG,xz];rfl
theorem LD (d:List UInt8) (dv:Value) (pos par typ wid at_:Int) (t:Tr) (tv:Value) (w:World) (hD:j6 w dv d) (hn:jM w t tv) (hp:kY pos):Calls prog 209 #[dv,.agg #[.int .i64 pos,.int .i64 par,.int .i64 typ,.int .i64 wid],.int .i64 at_,tv] w λr w'=>r=.returned (.bool (gQ d pos par t))∧jC w w':=by
 have HD:=zh hD;have HT:=zh hn;obtain⟨da,dc,rfl,_⟩:=hD.form;obtain⟨tk,tn,tu,ts,ta4,tn4,tc4,ta5,tn5,tc5,rfl⟩:=hn.node6;obtain⟨ek,en,eu,es⟩:=Z0 hn;have HK:Hid (tk=t.kind∧tn=t.fn∧tu=t.fu∧ts=t.fs):=⟨ek,en,eu,es⟩;clear hD hn ek en eu es;have HG:=zh (jC.refl w);obtain⟨res,j7⟩:∃b,gQ d pos par t=b:=⟨_,rfl⟩;rw[j7];have zJ:=zh j7;clear j7;have HLD:Hid (∀w',j6 w' (.slice da d.length dc) d→Calls prog 216 #[.slice da d.length dc,.int .i64 pos,.int .i64 par] w' λr w2=>r=.returned (.tuple #[.int .u64 (k7 d pos par).1,.int .i64 (k7 d pos par).2])∧jC w' w2):=λw' h=>QT _ d h.1 (by have:=h.2.1;omega) pos par hp (λad n c e=>(h.2.2 ad n c e).1);have hpos:=YP d pos par;unfold gQ at zJ;generalize k7 d pos par=q at *;obtain⟨lu,le⟩:=q;simp only at HLD hpos zJ;have HPOS:=zh hpos;clear hpos;go_enter func209,ntmps209;go_upto_region 1 with fail;obtain⟨pr,hpr⟩:∃N,w.heap.size=N:=⟨_,rfl⟩;obtain⟨hr1,hga⟩:=sqal w (.cells #[.int .i64 pos,.int .i64 par,.int .i64 typ,.int .i64 wid] 88);have hz1:(w.alloc (.cells #[.int .i64 pos,.int .i64 par,.int .i64 typ,.int .i64 wid] 88)).heap.size=pr+1:=by rw[zm,hpr]
 generalize w.alloc _=x1 at *;rw[hpr] at hr1
 try rw[hpr]
 have HRR:=zh hr1;clear hr1 hpr;replace HD:=zh (j6.grew HD.out hga);replace HT:=zh (jM.grew hga HT.out);replace HG:=zh (HG.trans hga);clear hga;obtain⟨hr2,hga⟩:=sqal x1 (.cells #[.int .i64 tk,.int .i64 tn,.int .u64 tu,.string ts,.slice ta4 tn4 tc4,.slice ta5 tn5 tc5] 26);generalize x1.alloc _=x2 at *;rw[hz1] at hr2
 try rw[hz1]
 have HRT:=zh hr2;clear hr2 hz1;replace HD:=zh (j6.grew HD.out hga);replace HT:=zh (jM.grew hga HT.out);replace HRR:=zh (hga.heap HRR.out);replace HG:=zh (HG.trans hga);clear hga;obtain⟨c0,c1,c2,c3⟩:=sqr4 HRR;obtain⟨e0,e1,e2,e3,e4,e5⟩:=sqr6 HRT;go_wp2_with fail;refine (HLD.out _ HD.out).mono ?_;rintro r u1 ⟨rfl,hgc⟩;clear c0 c1 c2 c3;clear e0 e1 e2 e3 e4 e5;replace HD:=zh (j6.grew HD.out hgc);replace HT:=zh (jM.grew hgc HT.out);replace HRR:=zh (hgc.heap HRR.out);replace HRT:=zh (hgc.heap HRT.out);replace HG:=zh (HG.trans hgc);clear hgc;obtain⟨e0,e1,e2,e3,e4,e5⟩:=sqr6 HRT;have hh0:=HT.grew ((jC.refl u1).alloc (.cells #[.int .i64 2,.int .i64 0,.int .u64 0,.string ⟨#[]⟩,.slice none 0 0,.slice none 0 0] 26));have hh1:=HT.grew ((jC.refl u1).alloc (.cells #[.int .i64 2,.int .i64 1,.int .u64 0,.string ⟨#[]⟩,.slice none 0 0,.slice none 0 0] 26));have HH:=zh (qa hh0 hh1);have HA0:=zh (HG.trans ((jC.refl u1).alloc (.cells #[.int .i64 2,.int .i64 0,.int .u64 0,.string ⟨#[]⟩,.slice none 0 0,.slice none 0 0] 26)));have HA1:=zh (HG.trans ((jC.refl u1).alloc (.cells #[.int .i64 2,.int .i64 1,.int .u64 0,.string ⟨#[]⟩,.slice none 0 0,.slice none 0 0] 26)));clear hh0 hh1;have ee0:=λo=>((jC.refl u1).alloc o).cell e0;have ee1:=λo=>((jC.refl u1).alloc o).cell e1;have ee2:=λo=>((jC.refl u1).alloc o).cell e2;have ee3:=λo=>((jC.refl u1).alloc o).cell e3;have ee4:=λo=>((jC.refl u1).alloc o).cell e4;have ee5:=λo=>((jC.refl u1).alloc o).cell e5;by_cases hle:le=0;rotate_left
 ·have hb:(le == 0)=false:=by simpa using hle
  have hu0:lu=0:=HPOS.2.2 hle;have HV:Hid (res=false):=by show _=_;rw[← zJ.out,decide_eq_false hle];rfl
  subst hu0;clear hle;go_wp2;go_ret;exact⟨by rw[HV];rfl,HA0.out⟩
 subst hle;by_cases hu:lu=0
 ·have hb:(lu != 0)=false:=by simpa using hu
  have HV:Hid (res=yB t 2 0 0 EMB):=by show _=_;rw[← zJ.out,zl hu];rfl
  clear hu;go_wp2_with fail;refine (JJ t _ 2 0 0 ⟨#[]⟩ _ HH.1).mono ?_;rintro r u3 ⟨rfl,hg3⟩;have HG3:=zh (HA0.trans hg3);clear hg3;go_wp2;go_ret;exact⟨by rw[HV];rfl,HG3.out⟩
 have hb:(lu != 0)=true:=by simpa using hu
 have HV:Hid (res=yB t 2 1 0 EMB):=by show _=_;rw[← zJ.out,ze hu];rfl
 clear hu;go_wp2_with fail;refine (JJ t _ 2 1 0 ⟨#[]⟩ _ HH.2).mono ?_;rintro r u3 ⟨rfl,hg3⟩;have HG3:=zh (HA1.trans hg3);clear hg3;go_wp2;go_ret;exact⟨by rw[HV];rfl,HG3.out⟩
theorem key_any (d:List UInt8) (dv:Value) (pos par typ wid at_:Int) (t:Tr) (tv:Value) (w:World) (hD:j6 w dv d) (hn:jM w t tv) (hp:0≤at_∧at_≤1048576) (hs:t.fs.size≤1000):Calls prog 210 #[dv,.agg #[.int .i64 pos,.int .i64 par,.int .i64 typ,.int .i64 wid],.int .i64 at_,tv] w λr w'=>r=.returned (.bool (fJ d at_ t))∧jC w w':=by
 have HD:=zh hD;have HT:=zh hn;obtain⟨da,dc,rfl,_⟩:=hD.form;obtain⟨tk,tn,tu,ts,ta4,tn4,tc4,ta5,tn5,tc5,rfl⟩:=hn.node6;obtain⟨ek,en,eu,es⟩:=Z0 hn;have HK:Hid (tk=t.kind∧tn=t.fn∧tu=t.fu∧ts=t.fs):=⟨ek,en,eu,es⟩;clear hD hn ek en eu es;have HG:=zh (jC.refl w);obtain⟨res,j7⟩:∃b,fJ d at_ t=b:=⟨_,rfl⟩;rw[j7];have zJ:=zh j7;clear j7;go_enter func210,ntmps210;go_upto_region 1 with fail;obtain⟨pr,hpr⟩:∃N,w.heap.size=N:=⟨_,rfl⟩;obtain⟨hr1,hga⟩:=sqal w (.cells #[.int .i64 pos,.int .i64 par,.int .i64 typ,.int .i64 wid] 88);have hz1:(w.alloc (.cells #[.int .i64 pos,.int .i64 par,.int .i64 typ,.int .i64 wid] 88)).heap.size=pr+1:=by rw[zm,hpr]
 generalize w.alloc _=x1 at *;rw[hpr] at hr1
 try rw[hpr]
 have HRR:=zh hr1;clear hr1 hpr;replace HD:=zh (j6.grew HD.out hga);replace HT:=zh (jM.grew hga HT.out);replace HG:=zh (HG.trans hga);clear hga;obtain⟨hr2,hga⟩:=sqal x1 (.cells #[.int .i64 tk,.int .i64 tn,.int .u64 tu,.string ts,.slice ta4 tn4 tc4,.slice ta5 tn5 tc5] 26);generalize x1.alloc _=x2 at *;rw[hz1] at hr2
 try rw[hz1]
 have HRT:=zh hr2;clear hr2 hz1;replace HD:=zh (j6.grew HD.out hga);replace HT:=zh (jM.grew hga HT.out);replace HRR:=zh (hga.heap HRR.out);replace HG:=zh (HG.trans hga);clear hga;obtain⟨c0,c1,c2,c3⟩:=sqr4 HRR;obtain⟨e0,e1,e2,e3,e4,e5⟩:=sqr6 HRT;have HSZ:Hid (ts.size≤1000):=by rw[HK.2.2.2];exact hs
 clear hs;go_wp2_with fail;obtain⟨b1,hb1⟩:∃b,yB t 5 0 0 ts=b:=⟨_,rfl⟩;have hh:=JJ t _ 5 0 0 ts _ HT.out;rw[hb1] at hh;have HB1:Hid (yB t 5 0 0 t.fs=b1):=by rw[← HK.2.2.2];exact hb1
 clear hb1;refine hh.mono ?_;clear hh;rintro r u1 ⟨rfl,hgc⟩;clear c0 c1 c2 c3;clear e0 e1 e2 e3 e4 e5;replace HD:=zh (j6.grew HD.out hgc);replace HT:=zh (jM.grew hgc HT.out);replace HRR:=zh (hgc.heap HRR.out);replace HRT:=zh (hgc.heap HRT.out);replace HG:=zh (HG.trans hgc);clear hgc;obtain⟨e0,e1,e2,e3,e4,e5⟩:=sqr6 HRT;cases b1
 ·have HV:Hid (res=false):=by show _=_;rw[← zJ.out];unfold fJ;rw[HB1];rfl
  go_wp2;go_ret;exact⟨by rw[HV];rfl,HG.out⟩
 go_wp2_with fail;obtain⟨ke,hke⟩:∃q,vD ts=q:=⟨_,rfl⟩;have hh:=lT ts u1;rw[hke] at hh;have HKE:Hid (vD t.fs=ke):=by rw[← HK.2.2.2];exact hke
 clear hke;refine hh.mono ?_;clear hh;rintro r u2 ⟨rfl,e⟩;rw[← e];clear e;by_cases hk0:ke=0;rotate_left
 ·have hb:(ke == 0)=false:=by simpa using hk0
  have HV:Hid (res=false):=by show _=_;rw[← zJ.out];unfold fJ;rw[HB1,HKE,decide_eq_false hk0];rfl
  clear hk0;go_wp2;go_ret;exact⟨by rw[HV];rfl,HG.out⟩
 subst hk0;have HV:Hid (res=ZI d at_ (YG ts)):=by show _=_;rw[← zJ.out];unfold fJ;rw[HB1,HKE,← HK.2.2.2];rfl
 have hcs:ts.size≤1000:=HSZ.out;go_wp2_with fail;skip;refine (BM d _ at_ (YG ts) _ HD.out zp8 (by rw[YQ];have:=HSZ.out;omega)).mono ?_;rintro r u3 ⟨rfl,hgc⟩;replace HD:=zh (j6.grew HD.out hgc);replace HT:=zh (jM.grew hgc HT.out);replace HRR:=zh (hgc.heap HRR.out);replace HRT:=zh (hgc.heap HRT.out);replace HG:=zh (HG.trans hgc);clear hgc;clear e0 e1 e2 e3 e4 e5;go_wp2;go_ret;exact⟨by rw[HV];rfl,HG.out⟩
theorem lU (d:List UInt8) (dv:Value) (pos par typ wid at_:Int) (t:Tr) (tv:Value) (w:World) (hD:j6 w dv d) (hn:jM w t tv) (hp:0≤at_∧at_≤1048576) (hw:isW wid=true):Calls prog 212 #[dv,.agg #[.int .i64 pos,.int .i64 par,.int .i64 typ,.int .i64 wid],.int .i64 at_,tv] w λr w'=>r=.returned (.bool (ZA d typ wid at_ t))∧jC w w':=by
 by_cases ht6:typ=6
 ·subst ht6;have HD:=zh hD;have HT:=zh hn;obtain⟨da,dc,rfl,_⟩:=hD.form;obtain⟨tk,tn,tu,ts,ta4,tn4,tc4,ta5,tn5,tc5,rfl⟩:=hn.node6;obtain⟨ek,en,eu,es⟩:=Z0 hn;have HK:Hid (tk=t.kind∧tn=t.fn∧tu=t.fu∧ts=t.fs):=⟨ek,en,eu,es⟩;clear hD hn ek en eu es;have HG:=zh (jC.refl w);obtain⟨res,j7⟩:∃b,ZA d 6 wid at_ t=b:=⟨_,rfl⟩;rw[j7];have zJ:=zh j7;clear j7;go_enter func212,ntmps212;go_upto_region 1 with fail;obtain⟨pr,hpr⟩:∃N,w.heap.size=N:=⟨_,rfl⟩;obtain⟨hr1,hga⟩:=sqal w (.cells #[.int .i64 pos,.int .i64 par,.int .i64 6,.int .i64 wid] 88);have hz1:(w.alloc (.cells #[.int .i64 pos,.int .i64 par,.int .i64 6,.int .i64 wid] 88)).heap.size=pr+1:=by rw[zm,hpr]
  generalize w.alloc _=x1 at *;rw[hpr] at hr1
  try rw[hpr]
  have HRR:=zh hr1;clear hr1 hpr;replace HD:=zh (j6.grew HD.out hga);replace HT:=zh (jM.grew hga HT.out);replace HG:=zh (HG.trans hga);clear hga;obtain⟨hr2,hga⟩:=sqal x1 (.cells #[.int .i64 tk,.int .i64 tn,.int .u64 tu,.string ts,.slice ta4 tn4 tc4,.slice ta5 tn5 tc5] 26);generalize x1.alloc _=x2 at *;rw[hz1] at hr2
  try rw[hz1]
  have HRT:=zh hr2;clear hr2 hz1;replace HD:=zh (j6.grew HD.out hga);replace HT:=zh (jM.grew hga HT.out);replace HRR:=zh (hga.heap HRR.out);replace HG:=zh (HG.trans hga);clear hga;obtain⟨c0,c1,c2,c3⟩:=sqr4 HRR;obtain⟨e0,e1,e2,e3,e4,e5⟩:=sqr6 HRT;have ht:Int.tmod at_ wid=at_ % wid:=Int.tmod_eq_emod_of_nonneg hp.1;have hw1:1≤wid∧wid≤8:=by rcases yL hw with rfl | rfl | rfl | rfl<;>omega
  have hwz:(wid == 0)=false:=by rw[beq_eq_false_iff_ne];omega
  have hm0:0≤at_ % wid∧at_ % wid < 8:=⟨xg _ zo,Int.lt_of_lt_of_le (xd _ zo) hw1.2⟩;have hwm:IntKind.i64.wrap (at_ % wid)=at_ % wid:=by rw[zy];omega
  obtain⟨md,hmd⟩:∃q,at_ % wid=q:=⟨_,rfl⟩;rw[hmd] at ht hwm hm0;have HMD:=zh hmd;clear hmd;have HRS:Hid (res=(decide (tk=8) && decide (md=0) && vU d at_ wid 8 9 t)):=by show _=_;rw[← zJ.out];unfold ZA;rw[zl rfl,← HK.1,HMD]
  by_cases hk:tk=8;rotate_left
  ·have hb:(tk == 8)=false:=by simpa using hk
   have HV:Hid (res=false):=by show _=_;rw[HRS,decide_eq_false hk];rfl
   clear hk;go_wp2;go_ret;exact⟨by rw[HV];rfl,HG.out⟩
  by_cases hm:md=0;rotate_left
  ·have hb:(md == 0)=false:=by simpa using hm
   have hb2:(tk == 8)=true:=by simpa using hk
   have HV:Hid (res=false):=by show _=_;rw[HRS,decide_eq_false hm,Bool.and_false];rfl
   clear hm hk;go_wp2;go_ret;exact⟨by rw[HV];rfl,HG.out⟩
  have HV:Hid (res=vU d at_ wid 8 9 t):=by show _=_;rw[HRS,qt hk,qt hm];rfl
  subst hm;subst hk;go_wp2_with fail;refine (VC d _ at_ wid 8 9 t _ _ HD.out zp8 HT.out).mono ?_;rintro r u2 ⟨rfl,hgc⟩;replace HD:=zh (j6.grew HD.out hgc);replace HT:=zh (jM.grew hgc HT.out);replace HRR:=zh (hgc.heap HRR.out);replace HRT:=zh (hgc.heap HRT.out);replace HG:=zh (HG.trans hgc);clear hgc;clear c0 c1 c2 c3;clear e0 e1 e2 e3 e4 e5;go_wp2;go_ret;exact⟨by rw[HV];rfl,HG.out⟩
 have hb6:(typ == 6)=false:=by simpa using ht6
 have HT6:=zh ht6;clear ht6;have HD:=zh hD;have HT:=zh hn;obtain⟨da,dc,rfl,_⟩:=hD.form;obtain⟨tk,tn,tu,ts,ta4,tn4,tc4,ta5,tn5,tc5,rfl⟩:=hn.node6;obtain⟨ek,en,eu,es⟩:=Z0 hn;have HK:Hid (tk=t.kind∧tn=t.fn∧tu=t.fu∧ts=t.fs):=⟨ek,en,eu,es⟩;clear hD hn ek en eu es;have HG:=zh (jC.refl w);obtain⟨res,j7⟩:∃b,ZA d typ wid at_ t=b:=⟨_,rfl⟩;rw[j7];have zJ:=zh j7;clear j7;go_enter func212,ntmps212;go_upto_region 1 with fail;obtain⟨pr,hpr⟩:∃N,w.heap.size=N:=⟨_,rfl⟩;obtain⟨hr1,hga⟩:=sqal w (.cells #[.int .i64 pos,.int .i64 par,.int .i64 typ,.int .i64 wid] 88);have hz1:(w.alloc (.cells #[.int .i64 pos,.int .i64 par,.int .i64 typ,.int .i64 wid] 88)).heap.size=pr+1:=by rw[zm,hpr]
 generalize w.alloc _=x1 at *;rw[hpr] at hr1
 try rw[hpr]
 have HRR:=zh hr1;clear hr1 hpr;replace HD:=zh (j6.grew HD.out hga);replace HT:=zh (jM.grew hga HT.out);replace HG:=zh (HG.trans hga);clear hga;obtain⟨hr2,hga⟩:=sqal x1 (.cells #[.int .i64 tk,.int .i64 tn,.int .u64 tu,.string ts,.slice ta4 tn4 tc4,.slice ta5 tn5 tc5] 26);generalize x1.alloc _=x2 at *;rw[hz1] at hr2
 try rw[hz1]
 have HRT:=zh hr2;clear hr2 hz1;replace HD:=zh (j6.grew HD.out hga);replace HT:=zh (jM.grew hga HT.out);replace HRR:=zh (hga.heap HRR.out);replace HG:=zh (HG.trans hga);clear hga;obtain⟨c0,c1,c2,c3⟩:=sqr4 HRR;obtain⟨e0,e1,e2,e3,e4,e5⟩:=sqr6 HRT;have ht:Int.tmod at_ wid=at_ % wid:=Int.tmod_eq_emod_of_nonneg hp.1;have hw1:1≤wid∧wid≤8:=by rcases yL hw with rfl | rfl | rfl | rfl<;>omega
 have hwz:(wid == 0)=false:=by rw[beq_eq_false_iff_ne];omega
 have hm0:0≤at_ % wid∧at_ % wid < 8:=⟨xg _ zo,Int.lt_of_lt_of_le (xd _ zo) hw1.2⟩;have hwm:IntKind.i64.wrap (at_ % wid)=at_ % wid:=by rw[zy];omega
 obtain⟨md,hmd⟩:∃q,at_ % wid=q:=⟨_,rfl⟩;rw[hmd] at ht hwm hm0;have HMD:=zh hmd;clear hmd;have HRS:Hid (res=(decide (tk=9) && decide (md=0) && vU d at_ wid 8 9 t)):=by show _=_;rw[← zJ.out];unfold ZA;rw[ze HT6.out,← HK.1,HMD]
 by_cases hk:tk=9;rotate_left
 ·have hb:(tk == 9)=false:=by simpa using hk
  have HV:Hid (res=false):=by show _=_;rw[HRS,decide_eq_false hk];rfl
  clear hk;go_wp2;go_ret;exact⟨by rw[HV];rfl,HG.out⟩
 by_cases hm:md=0;rotate_left
 ·have hb:(md == 0)=false:=by simpa using hm
  have hb2:(tk == 9)=true:=by simpa using hk
  have HV:Hid (res=false):=by show _=_;rw[HRS,decide_eq_false hm,Bool.and_false];rfl
  clear hm hk;go_wp2;go_ret;exact⟨by rw[HV];rfl,HG.out⟩
 have HV:Hid (res=vU d at_ wid 8 9 t):=by show _=_;rw[HRS,qt hk,qt hm];rfl
 subst hm;subst hk;go_wp2_with fail;refine (VC d _ at_ wid 8 9 t _ _ HD.out zp8 HT.out).mono ?_;rintro r u2 ⟨rfl,hgc⟩;replace HD:=zh (j6.grew HD.out hgc);replace HT:=zh (jM.grew hgc HT.out);replace HRR:=zh (hgc.heap HRR.out);replace HRT:=zh (hgc.heap HRT.out);replace HG:=zh (HG.trans hgc);clear hgc;clear c0 c1 c2 c3;clear e0 e1 e2 e3 e4 e5;go_wp2;go_ret;exact⟨by rw[HV];rfl,HG.out⟩
end Go.Proofs.YtdjoffgkndncfaaGreat
