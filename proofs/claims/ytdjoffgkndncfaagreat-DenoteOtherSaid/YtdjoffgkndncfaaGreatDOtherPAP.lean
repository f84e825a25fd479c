/-Texts-/
import Derived.Test.YtdjoffgkndncfaaGreatDOtherPAO
import Derived.Deep.CutBlock
import Derived.Deep.DeepCutAuto
set_option linter.unusedVariables false
set_option linter.unusedSimpArgs false
set_option maxHeartbeats 16000000
set_option maxRecDepth 100000
namespace Go.Proofs.YtdjoffgkndncfaaGreat
open Go.Proofs.Tryz
open Go Go.ChangeShapes Go.WideShapes Go.ChangeAt Go.RowKit Go.Joins Go.Deep
theorem Z4 (d:List UInt8) (dv:Value) (at_ x:Int) (w:World) (hD:j6 w dv d) (ha:kY at_):Calls prog 173 #[dv,.int .i64 at_,.int .i64 x] w λr w'=>r=.returned (.tuple #[.int .i64 (yF d at_ x).1,.bool (yF d at_ x).2])∧jC w w':=by
 have HL:=zh (QT dv d hD.1 (by have:=hD.2.1;omega) at_ x ha (λad n c e=>(hD.2.2 ad n c e).1));have hp:=YP d at_ x;unfold yF;generalize k7 d at_ x=q at *;obtain⟨u,e⟩:=q;simp only at HL hp⊢;obtain⟨a,c,rfl,_⟩:=hD.form;clear hD;obtain⟨h0,h1,h2⟩:=hp;by_cases he:e=0
 ·subst he;clear h2;by_cases hu:u≤9007199254740992
  ·have hm:min u 9007199254740992=u:=by omega
   have hw:IntKind.i64.wrap u=u:=by rw[zy];omega
   rw[hm];have HU:Hid (decide (u≤9007199254740992)=true):=qt hu;go_enter func173,ntmps173;go_wp2_with fail;refine HL.mono ?_;rintro r w' ⟨rfl,hg⟩;have HG:=zh hg;clear hg;go_wp2
   go_ret2
   exact⟨by rw[HU];rfl,HG.out⟩
  have hm:min u 9007199254740992=9007199254740992:=by omega
  rw[hm];have HU:Hid (decide (u≤9007199254740992)=false):=decide_eq_false hu;go_enter func173,ntmps173;go_wp2_with fail;refine HL.mono ?_;rintro r w' ⟨rfl,hg⟩;have HG:=zh hg;clear hg;go_wp2
  go_ret2
  exact⟨by rw[HU];rfl,HG.out⟩
 have e0:=h2 he;subst e0;have hb:(e == 0)=false:=by simpa using he
 have HE:Hid (decide (e=0)=false):=decide_eq_false he;clear he h2 h0 h1;go_enter func173,ntmps173;go_wp2_with fail;refine HL.mono ?_;rintro r w' ⟨rfl,hg⟩;have HG:=zh hg;clear hg;go_wp2
 go_ret2
 exact⟨by rw[HE];rfl,HG.out⟩
theorem JJ (t:Tr) (tv:Value) (k2 n2 u2:Int) (s2:ByteArray) (w:World) (hn:jM w t tv):Calls prog 214 #[tv,.agg #[.int .i64 k2,.int .i64 n2,.int .u64 u2,.string s2,.slice none 0 0,.slice none 0 0]] w λr w'=>r=.returned (.bool (yB t k2 n2 u2 s2))∧jC w w':=by
 obtain⟨k,n,u,s,keys,l⟩:=t;simp only[jM] at hn;obtain⟨_,kv,lv,vs,rfl,hks,hrl,zN⟩:=hn;have hkl:=zN.length;obtain⟨a4,c4,rfl,_,hc4,_⟩:=hks;obtain⟨a5,c5,rfl,_,hc5,_⟩:=hrl;rw[hkl];have hk1:keys.length≤9223372036854775807:=by unfold kI at hc4;omega
 have hl1:l.length≤9223372036854775807:=by unfold kI at hc5;omega
 clear zN hkl hc4 hc5;by_cases h0:k=k2;rotate_left
 ·have HF:Hid (yB (.mk k n u s keys l) k2 n2 u2 s2 =  false):=by show _=_;simp[yB,Tr.kind,Tr.fn,Tr.fu,Tr.fs,Tr.keys,Tr.kids,h0]
  rw[HF];have hB:(k == k2)=false:=by simp[h0]
  clear h0;go_enter func214,ntmps214;go_wp2;go_ret;exact⟨rfl,((jC.refl w).alloc _).alloc _⟩
 subst h0;by_cases h1:n=n2;rotate_left
 ·have HF:Hid (yB (.mk k n u s keys l) k n2 u2 s2 =  false):=by show _=_;simp[yB,Tr.kind,Tr.fn,Tr.fu,Tr.fs,Tr.keys,Tr.kids,h1]
  rw[HF];have hB:(n == n2)=false:=by simp[h1]
  clear h1;go_enter func214,ntmps214;go_wp2;go_ret;exact⟨rfl,((jC.refl w).alloc _).alloc _⟩
 subst h1;by_cases h2:u=u2;rotate_left
 ·have HF:Hid (yB (.mk k n u s keys l) k n u2 s2 =  false):=by show _=_;simp[yB,Tr.kind,Tr.fn,Tr.fu,Tr.fs,Tr.keys,Tr.kids,h2]
  rw[HF];have hB:(u == u2)=false:=by simp[h2]
  clear h2;go_enter func214,ntmps214;go_wp2;go_ret;exact⟨rfl,((jC.refl w).alloc _).alloc _⟩
 subst h2;by_cases h3:s=s2;rotate_left
 ·have HF:Hid (yB (.mk k n u s keys l) k n u s2 =  false):=by show _=_;simp[yB,Tr.kind,Tr.fn,Tr.fu,Tr.fs,Tr.keys,Tr.kids,h3]
  rw[HF];have hB:(s.toList == s2.toList)=false:=by rw[cL];exact decide_eq_false h3
  clear h3;go_enter func214,ntmps214;go_wp2;go_ret;exact⟨rfl,((jC.refl w).alloc _).alloc _⟩
 subst h3;by_cases h4:keys.length=0;rotate_left
 ·have HF:Hid (yB (.mk k n u s keys l) k n u s =  false):=by show _=_;simp[yB,Tr.kind,Tr.fn,Tr.fu,Tr.fs,Tr.keys,Tr.kids,h4]
  rw[HF];have hB:¬((keys.length:Nat):Int)=0:=by omega
  have hB2:(((keys.length:Nat):Int) == 0)=false:=by rw[beq_eq_false_iff_ne];omega
  clear h4;go_enter func214,ntmps214;go_wp2;go_ret;exact⟨rfl,((jC.refl w).alloc _).alloc _⟩
 by_cases h5:l.length=0;rotate_left
 ·have HF:Hid (yB (.mk k n u s keys l) k n u s =  false):=by show _=_;simp[yB,Tr.kind,Tr.fn,Tr.fu,Tr.fs,Tr.keys,Tr.kids,h5]
  rw[HF];have hB:¬((l.length:Nat):Int)=0:=by omega
  have hB2:(((l.length:Nat):Int) == 0)=false:=by rw[beq_eq_false_iff_ne];omega
  clear h5;go_enter func214,ntmps214;go_wp2;go_ret;exact⟨rfl,((jC.refl w).alloc _).alloc _⟩
 have HF:Hid (yB (.mk k n u s keys l) k n u s=true):=by show _=_;simp[yB,Tr.kind,Tr.fn,Tr.fu,Tr.fs,Tr.keys,Tr.kids,h4,h5]
 rw[HF,h4,h5];clear h4 h5 hk1 hl1;go_enter func214,ntmps214;go_wp2;go_ret;exact⟨rfl,((jC.refl w).alloc _).alloc _⟩
theorem Z0 {w:World} {t:Tr} {k n u:Int} {s:ByteArray} {a4 a5:Value} (h:jM w t (.agg #[.int .i64 k,.int .i64 n,.int .u64 u,.string s,a4,a5])):k=t.kind∧n=t.fn∧u=t.fu∧s=t.fs:=by
 cases t;simp only[jM] at h;obtain⟨_,kv,lv,vs,e,_⟩:=h;injection e with e;simp only[Array.mk.injEq,List.cons.injEq,Value.int.injEq,Value.string.injEq] at e;exact⟨e.1.2,e.2.1.2,e.2.2.1.2,e.2.2.2.1⟩
theorem VC (d:List UInt8) (dv:Value) (at_ x sg un:Int) (t:Tr) (tv:Value) (w:World) (hD:j6 w dv d) (ha:kY at_) (hn:jM w t tv):Calls prog 244 #[dv,.int .i64 at_,.int .i64 x,.int .i64 sg,.int .i64 un,tv] w λr w'=>r=.returned (.bool (vU d at_ x sg un t))∧jC w w':=by
 have HD:=zh hD;have HT:=zh hn;obtain⟨da,dc,rfl,_⟩:=hD.form;obtain⟨tk,tn,tu,ts,ta4,tn4,tc4,ta5,tn5,tc5,rfl⟩:=hn.node6;obtain⟨ek,en,eu,es⟩:=Z0 hn;have HK:Hid (tk=t.kind∧tn=t.fn∧tu=t.fu∧ts=t.fs):=⟨ek,en,eu,es⟩;clear hD hn ek en eu es;have HG:=zh (jC.refl w);have HP:=zh (YP d at_ x);have HLD:Hid (∀w',j6 w' (.slice da d.length dc) d→Calls prog 216 #[.slice da d.length dc,.int .i64 at_,.int .i64 x] w' λr w2=>r=.returned (.tuple #[.int .u64 (k7 d at_ x).1,.int .i64 (k7 d at_ x).2])∧jC w' w2):=λw' h=>QT _ d h.1 (by have:=h.2.1;omega) at_ x ha (λad n c e=>(h.2.2 ad n c e).1);have HLI:Hid (∀w',j6 w' (.slice da d.length dc) d→Calls prog 262 #[.slice da d.length dc,.int .i64 at_,.int .i64 x] w' λr w2=>r=.returned (.tuple #[.int .i64 (JG d at_ x).1,.int .i64 (JG d at_ x).2])∧jC w' w2):=λw' h=>sF _ d h.1 (by have:=h.2.1;omega) at_ x ha (λad n c e=>(h.2.2 ad n c e).1);unfold vU;generalize k7 d at_ x=q at *;generalize JG d at_ x=qi at *;obtain⟨lu,le⟩:=q;obtain⟨li,lj⟩:=qi;simp only at HP HLD HLI⊢;obtain⟨res,j7⟩:∃b,(if le≠0 then false else if t.kind=sg then yB t sg li 0 EMB else decide (t.kind=un) && yB t un 0 lu EMB)=b:=⟨_,rfl⟩;rw[j7];have zJ:=zh j7;clear j7;go_enter func244,ntmps244;go_upto_region 1 with fail;obtain⟨pt,hpt⟩:∃N,w.heap.size=N:=⟨_,rfl⟩;obtain⟨hr1,hga⟩:=sqal w (.cells #[.int .i64 tk,.int .i64 tn,.int .u64 tu,.string ts,.slice ta4 tn4 tc4,.slice ta5 tn5 tc5] 26);have hz1:(w.alloc (.cells #[.int .i64 tk,.int .i64 tn,.int .u64 tu,.string ts,.slice ta4 tn4 tc4,.slice ta5 tn5 tc5] 26)).heap.size=pt+1:=by rw[zm,hpt]
 generalize w.alloc _=x1 at *;rw[hpt] at hr1
 try rw[hpt]
 have HRT:=zh hr1;clear hr1 hpt;replace HD:=zh (j6.grew HD.out hga);replace HT:=zh (jM.grew hga HT.out);replace HG:=zh (HG.trans hga);clear hga;clear hz1;go_wp2_with fail;refine (HLD.out _ HD.out).mono ?_;rintro r u1 ⟨rfl,hgc⟩;replace HD:=zh (j6.grew HD.out hgc);replace HT:=zh (jM.grew hgc HT.out);replace HRT:=zh (hgc.heap HRT.out);replace HG:=zh (HG.trans hgc);clear hgc;go_wp2_with fail;refine (HLI.out _ HD.out).mono ?_;rintro r u2 ⟨rfl,hgc⟩;replace HD:=zh (j6.grew HD.out hgc);replace HT:=zh (jM.grew hgc HT.out);replace HRT:=zh (hgc.heap HRT.out);replace HG:=zh (HG.trans hgc);clear hgc;obtain⟨c0,c1,c2,c3,c4,c5⟩:=sqr6 HRT;by_cases hle:le=0;rotate_left
 ·have hb:(le != 0)=true:=by simpa using hle
  have HV:Hid (res=false):=by show _=_;rw[← zJ.out,zl hle]
  clear hle;go_wp2;go_ret;exact⟨by rw[HV];rfl,HG.out⟩
 subst hle;by_cases hs:tk=sg
 ·have hb:(tk == sg)=true:=by simpa using hs
  have HV:Hid (res=yB t tk li 0 EMB):=by show _=_;rw[← zJ.out,ze zd,← HK.1,zl hs,hs]
  subst hs;go_wp2_with fail;refine (JJ t _ tk li 0 ⟨#[]⟩ _ HT.out).mono ?_;rintro r u3 ⟨rfl,hgc⟩;replace HD:=zh (j6.grew HD.out hgc);replace HT:=zh (jM.grew hgc HT.out);replace HRT:=zh (hgc.heap HRT.out);replace HG:=zh (HG.trans hgc);clear hgc;go_wp2;go_ret;exact⟨by rw[HV];rfl,HG.out⟩
 have hb:(tk == sg)=false:=by simpa using hs
 by_cases hu:tk=un
 ·have hb2:(tk == un)=true:=by simpa using hu
  have HV:Hid (res=yB t tk 0 lu EMB):=by show _=_;rw[← zJ.out,ze zd,← HK.1,ze hs,qt hu,Bool.true_and,hu]
  clear hs;subst hu;go_wp2_with fail;refine (JJ t _ tk 0 lu ⟨#[]⟩ _ HT.out).mono ?_;rintro r u3 ⟨rfl,hgc⟩;replace HD:=zh (j6.grew HD.out hgc);replace HT:=zh (jM.grew hgc HT.out);replace HRT:=zh (hgc.heap HRT.out);replace HG:=zh (HG.trans hgc);clear hgc;go_wp2;go_ret;exact⟨by rw[HV];rfl,HG.out⟩
 have hb2:(tk == un)=false:=by simpa using hu
 have HV:Hid (res=false):=by show _=_;rw[← zJ.out,ze zd,← HK.1,ze hs,decide_eq_false hu,Bool.false_and]
 clear hu hs;go_wp2;go_ret;exact⟨by rw[HV];rfl,HG.out⟩
end Go.Proofs.YtdjoffgkndncfaaGreat
