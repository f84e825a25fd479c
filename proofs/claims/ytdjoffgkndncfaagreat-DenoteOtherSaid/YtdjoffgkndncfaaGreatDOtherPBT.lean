/-Texts-/
import Derived.Test.YtdjoffgkndncfaaGreatDOtherPAS
import Derived.Test.YtdjoffgkndncfaaGreatDOtherPBQ
set_option linter.unusedVariables false
set_option linter.unusedSimpArgs false
set_option maxHeartbeats 16000000
set_option maxRecDepth 100000
namespace Go.Proofs.YtdjoffgkndncfaaGreat
open Go.Proofs.Tryz
open Go Go.ChangeShapes Go.WideShapes Go.ChangeAt Go.RowKit Go.Joins Go.Deep
theorem CY (t:Tr) (v:Value) (w:World) (hn:jM w t v):Calls prog 25 #[v] w λr w'=>∃v',r=.returned v'∧qA w' w.heap.size (cutF t) v' (JB w w')∧jC w w':=by
 have HN:=zh hn;obtain⟨k,n,u,s,a4,n4,c4,a5,n5,c5,rfl⟩:=hn.node6;clear hn;go_enter func25,ntmps25;go_wp2_with fail;have hg1:=(jC.refl w).alloc (.cells #[.int .i64 k,.int .i64 n,.int .u64 u,.string s,.slice a4 n4 c4,.slice a5 n5 c5] 26);have hs1:(w.alloc (.cells #[.int .i64 k,.int .i64 n,.int .u64 u,.string s,.slice a4 n4 c4,.slice a5 n5 c5] 26)).heap.size=w.heap.size+1:=zm _ _;generalize w.alloc _=w1 at *;obtain⟨hb2,hg2⟩:=sqal w1 (.cells #[.int .i64 0,.int .i64 0,.int .u64 0,.string ⟨#[]⟩,.slice none 0 0,.slice none 0 0] 26);generalize w1.alloc _=w2 at *;rw[hs1] at hb2;have HG:=zh (hg1.trans hg2);refine (sL 80 60 zo zo zo t _ w2 (HN.grew HG.out)).mono ?_;rintro r w3 ⟨v1,rfl,ho1,hg3⟩;have hb3:=hg3.heap hb2;have HO:=zh ho1;obtain⟨rk,rn,ru,rs,ra4,rn4,rc4,ra5,rn5,rc5,rfl⟩:=ho1.node6
 have HFIN:Hid (qA (kW w3 (w.heap.size+1) (.int .i64 rk) (.int .i64 rn) (.int .u64 ru) (.string rs) (.slice ra4 rn4 rc4) (.slice ra5 rn5 rc5)) w.heap.size (cutF t) (.agg #[.int .i64 rk,.int .i64 rn,.int .u64 ru,.string rs,.slice ra4 rn4 rc4,.slice ra5 rn5 rc5]) (JB w (kW w3 (w.heap.size+1) (.int .i64 rk) (.int .i64 rn) (.int .u64 ru) (.string rs) (.slice ra4 rn4 rc4) (.slice ra5 rn5 rc5)))∧jC w (kW w3 (w.heap.size+1) (.int .i64 rk) (.int .i64 rn) (.int .u64 ru) (.string rs) (.slice ra4 rn4 rc4) (.slice ra5 rn5 rc5))):=by
  have hT:Moved (λk=>k=w.heap.size+1) w3 (kW w3 (w.heap.size+1) (.int .i64 rk) (.int .i64 rn) (.int .u64 ru) (.string rs) (.slice ra4 rn4 rc4) (.slice ra5 rn5 rc5)):=yJ w3 (w.heap.size+1) _ _ _ _ _ _;have h2:=(zc.1 hb2).1;have h3:=hg3.size;generalize (kW w3 (w.heap.size+1) (.int .i64 rk) (.int .i64 rn) (.int .u64 ru) (.string rs) (.slice ra4 rn4 rc4) (.slice ra5 rn5 rc5))=W at *;have h4:=hT.size;have h5:=HG.size;refine⟨((HO.kept hT (λg hg e=>?_)).base zo).mono (λg hg=>?_),Moved.fresh (HG.trans hg3) hT (λg e=>by omega)⟩
  ·have:=hg.1;omega
  have:=hg.1;have:=hg.2;exact⟨by omega,by omega⟩
 obtain⟨z0,z1,z2,z3,z4,z5⟩:=sqr6 hb3;have f0:=jE hb3 0;have f1:=jE hb3 1;have f2:=jE hb3 2;have f3:=jE hb3 3;have f4:=jE hb3 4;have f5:=jE hb3 5;clear hg1 hs1 hb2 hg2 ho1 hg3 hb3;go_wp2_with fail;refine bodyPost_ret (v:=.agg #[.int .i64 rk,.int .i64 rn,.int .u64 ru,.string rs,.slice ra4 rn4 rc4,.slice ra5 rn5 rc5]) (by simp[results,results25,go_sem,z0,z1,z2,z3,z4,z5]) rfl ?_;exact⟨_,rfl,HFIN.out⟩
theorem ND (w:World):(Op.equal 208 .nilFunc .nilFunc).run prog w=.ok true w:=by
 have h:=underlying208;unfold Op.equal;rw[show Op.maxDepth=9999+1 from rfl];unfold Op.equalIn;simp only[Sem.run_bind,run_underlying h,Result.andThen];rfl
theorem eqfn_fn (f:Nat) (w:World):(Op.equal 208 (.func (.func f) #[] #[]) .nilFunc).run prog w=.ok false w:=by
 have h:=underlying208;unfold Op.equal;rw[show Op.maxDepth=9999+1 from rfl];unfold Op.equalIn;simp only[Sem.run_bind,run_underlying h,Result.andThen];rfl
theorem eql_nil (w:World):(binOp .eql 208 .nilFunc .nilFunc).run prog w=.ok (.bool true) w:=by
 have h:=ND w;simp only[binOp,Sem.run_bind,h,Result.andThen_ok,Sem.run_pure]
theorem NE (f:Nat) (w:World):(binOp .eql 208 (.func (.func f) #[] #[]) .nilFunc).run prog w=.ok (.bool false) w:=by
 have h:=eqfn_fn f w;simp only[binOp,Sem.run_bind,h,Result.andThen_ok,Sem.run_pure]
def VU (d:List UInt8) (typ:Int) (t:Tr):Prop:=∀(dv:Value) (pos par wid at_:Int) (tv:Value) (w:World),j6 w dv d→jM w t tv→0≤at_∧at_≤1048576→isW wid=true →
 Calls prog 172 #[dv,.agg #[.int .i64 pos,.int .i64 par,.int .i64 typ,.int .i64 wid],.int .i64 at_,tv] w λr w'=>r=.returned (.bool (JK d typ wid at_ t))∧jC w w'
theorem rQ (d:List UInt8) (at_ x:Int) (hd:d.length≤1048576) (h:(yF d at_ x).2=true):0≤at_∧at_≤1048576∧0≤(yF d at_ x).1:=by
 unfold yF at h⊢;simp only[zg,zp] at h;have hp:=YP d at_ x;refine⟨?_,?_,by simp only;omega⟩
 all_goals
  have h2:=h.1;unfold k7 at h2;split at h2
  ·rename_i hx;split at h2
   ·cases h2
   rcases yL hx with rfl|rfl|rfl|rfl<;>omega
  cases h2
theorem GG (w:World):(zeroValue 208).run prog w=.ok .nilFunc w:=by
 have h:(Tryz.prog.info? 208).map (λi=>i.zero)=some (some .nilFunc):=by kernel_rfl
 cases hi:Tryz.prog.info? 208 with
 | none=>rw[hi] at h;cases h
 | some i=>rw[hi] at h;simp at h;simp[zeroValue,typeInfo,hi,h,Result.andThen]
theorem nN (d:List UInt8) (typ:Int) (t:Tr) (hl:ZJ typ=false→KM typ=false→VU d typ t) (hs:t.fs.size≤1000) (dv:Value) (pos par wid lim:Int) (tv:Value) (w:World) (hD:j6 w dv d) (hn:jM w t tv) (hp:kY pos):Calls prog 115 #[dv,.agg #[.int .i64 pos,.int .i64 par,.int .i64 typ,.int .i64 wid],.int .i64 lim,tv] w λr w'=>r=.returned (.bool (JY d typ pos par wid lim t))∧jC w w':=by
 have HD:=zh hD;have HT:=zh hn;obtain⟨da,dc,rfl,_⟩:=hD.form;obtain⟨tk,tn,tu,ts,ta4,tn4,tc4,ta5,tn5,tc5,rfl⟩:=hn.node6;have HDL:Hid (d.length≤1048576):=hD.2.1;clear hD hn;have HG:=zh (jC.refl w);obtain⟨res,j7⟩:∃b,JY d typ pos par wid lim t=b:=⟨_,rfl⟩;rw[j7];have zJ:=zh j7;clear j7;rw[bK] at zJ;go_enter func115,ntmps115;go_upto_region 1 with fail;obtain⟨pr,hpr⟩:∃N,w.heap.size=N:=⟨_,rfl⟩;obtain⟨hr1,hga⟩:=sqal w (.cells #[.int .i64 pos,.int .i64 par,.int .i64 typ,.int .i64 wid] 88);have hz1:(w.alloc (.cells #[.int .i64 pos,.int .i64 par,.int .i64 typ,.int .i64 wid] 88)).heap.size=pr+1:=by rw[zm,hpr]
 generalize w.alloc _=x1 at *;rw[hpr] at hr1
 try rw[hpr]
 have HRR:=zh hr1;clear hr1 hpr;replace HD:=zh (j6.grew HD.out hga);replace HT:=zh (jM.grew hga HT.out);replace HG:=zh (HG.trans hga);clear hga;obtain⟨hr2,hga⟩:=sqal x1 (.cells #[.int .i64 tk,.int .i64 tn,.int .u64 tu,.string ts,.slice ta4 tn4 tc4,.slice ta5 tn5 tc5] 26);generalize x1.alloc _=x2 at *;rw[hz1] at hr2
 try rw[hz1]
 have HRT:=zh hr2;clear hr2 hz1;replace HD:=zh (j6.grew HD.out hga);replace HT:=zh (jM.grew hga HT.out);replace HRR:=zh (hga.heap HRR.out);replace HG:=zh (HG.trans hga);clear hga;obtain⟨c0,c1,c2,c3⟩:=sqr4 HRR;obtain⟨e0,e1,e2,e3,e4,e5⟩:=sqr6 HRT;go_wp2_with fail;refine (QR par x2).mono ?_;rintro r w1 ⟨⟨cp,rfl⟩,e⟩;rw[e];clear e w1;go_wp2_with fail;refine (QR wid x2).mono ?_;rintro r w1 ⟨⟨cw,rfl⟩,e⟩;rw[e];clear e w1;by_cases hwp:isW par=true;rotate_left
 ·have hce:(KF par != 0)=true:=by unfold KF;rw[ze hwp];decide
  have HV:Hid (res=false):=by show _=_;rw[← zJ.out,zl (by rw[show isW par=false by simpa using hwp];rfl)]
  clear hwp;go_wp2;go_ret;exact⟨by rw[HV];rfl,HG.out⟩
 have hce:KF par=0:=by unfold KF;rw[zl hwp]
 rw[hce];clear hce;by_cases hww:isW wid=true;rotate_left
 ·have hce:(KF wid != 0)=true:=by unfold KF;rw[ze hww];decide
  have HV:Hid (res=false):=by show _=_;rw[← zJ.out,zl (by rw[show isW wid=false by simpa using hww,Bool.and_false];rfl)]
  clear hww hwp;go_wp2;go_ret;exact⟨by rw[HV];rfl,HG.out⟩
 have hce:KF wid=0:=by unfold KF;rw[zl hww]
 rw[hce];clear hce;have HWP:=zh hwp;have HWW:=zh hww;clear hwp hww;go_wp2_with fail;obtain⟨lg,hlg⟩:∃b,Ft.legalB typ=b:=⟨_,rfl⟩;have hh:=Ft.legal_any typ x2;rw[hlg] at hh;have HLG:=zh hlg;clear hlg;refine hh.mono ?_;clear hh;rintro r u1 ⟨rfl,hgc⟩;clear c0 c1 c2 c3;clear e0 e1 e2 e3 e4 e5;replace HD:=zh (j6.grew HD.out hgc);replace HT:=zh (jM.grew hgc HT.out);replace HRR:=zh (hgc.heap HRR.out);replace HRT:=zh (hgc.heap HRT.out);replace HG:=zh (HG.trans hgc);clear hgc;obtain⟨c0,c1,c2,c3⟩:=sqr4 HRR;obtain⟨e0,e1,e2,e3,e4,e5⟩:=sqr6 HRT;cases lg
 ·have HV:Hid (res=false):=by show _=_;rw[← zJ.out,zl (by rw[HLG,Bool.and_false])]
  go_wp2;go_ret;exact⟨by rw[HV];rfl,HG.out⟩
 have HRS:Hid (res=if Ft.inlineB typ=true then qO d typ pos par wid 0 t else if cO d typ pos par wid lim=false then false else if KM typ=true then qO d typ pos par wid (pos - (yF d pos par).1) t else JK d typ wid (pos - (yF d pos par).1) t):=by show _=_;rw[← zJ.out,ze (by rw[HWP,HWW,HLG];decide)]
 clear zJ;go_upto_region 5 with fail;obtain⟨lv,hlv⟩:∃v,(match YD typ cN 0 with|some q=>q.2|none=>Value.nilFunc)=v:=⟨_,rfl⟩;have HLV:=zh hlv;clear hlv;refine sqH jC [[],[],[1],[0,1,2],[0,1,2,3]] [(40,0),(41,1),(42,2),(43,3),(13,4)]
  [λv w=>∃b,v=.map (some b)∧oA w b cN,Is (.pointer (some ⟨pr,2,none⟩)),Is (.int .i64 typ),Is (lv),Is (lv)]
  sqc zk jC.trans jC.refl (jC.refl _).drew zk ⟨λv w w' hg ⟨b,e,h⟩=>⟨b,e,hg.heap h⟩,jJ,jJ,jJ,jJ,trivial⟩ ?_ rfl ?_
 rotate_left
 ·intro y w2 hG hF;simp only[zV,Is,and_true,Nat.reduceAdd] at hF;have hlast:=hF.2.2.2.2;clear hF;simp only[jF,Act.put,zq,hlast];have HG2:=zh hG;clear hG hlast;clear c0 c1 c2 c3;clear e0 e1 e2 e3 e4 e5;have hgc:=HG2.out;clear HG2;replace HD:=zh (j6.grew HD.out hgc);replace HT:=zh (jM.grew hgc HT.out);replace HRR:=zh (hgc.heap HRR.out);replace HRT:=zh (hgc.heap HRT.out);replace HG:=zh (HG.trans hgc);clear hgc;obtain⟨c0,c1,c2,c3⟩:=sqr4 HRR;obtain⟨e0,e1,e2,e3,e4,e5⟩:=sqr6 HRT;cases hnear:ZJ typ;rotate_left
  ·obtain⟨j,f,hf,hfc,hcall⟩:=pB d typ (.inl hnear);have HFC:=zh hfc;clear hfc;have HV:Hid (res=qO d typ pos par wid 0 t):=by show _=_;rw[HRS.out,zl (by rw[Z6];exact hnear)]
   obtain rfl:lv=fF f:=by rw[← HLV.out,hf]
   have HC:=zh hcall;have heq:=NE f;have hin:=Ft.inline_any typ w2;rw[Z6,hnear] at hin;have HIN:=zh hin;clear hcall hf hnear hin;unfold fF;go_wp2_with fail;refine HIN.mono ?_;rintro r u3 ⟨rfl,hgc⟩;clear c0 c1 c2 c3;clear e0 e1 e2 e3 e4 e5;replace HD:=zh (j6.grew HD.out hgc);replace HT:=zh (jM.grew hgc HT.out);replace HRR:=zh (hgc.heap HRR.out);replace HRT:=zh (hgc.heap HRT.out);replace HG:=zh (HG.trans hgc);clear hgc;obtain⟨c0,c1,c2,c3⟩:=sqr4 HRR;obtain⟨e0,e1,e2,e3,e4,e5⟩:=sqr6 HRT;rcases HFC.out with e|e|e|e|e|e|e
   all_goals
   subst e;go_wp2_with fail;refine (HC.out _ pos par wid 0 t _ _ HD.out HT.out hp zo hs HWW.out).mono ?_;rintro r u4 ⟨rfl,hgc⟩;replace HD:=zh (j6.grew HD.out hgc);replace HT:=zh (jM.grew hgc HT.out);replace HRR:=zh (hgc.heap HRR.out);replace HRT:=zh (hgc.heap HRT.out);replace HG:=zh (HG.trans hgc);clear hgc;clear c0 c1 c2 c3;clear e0 e1 e2 e3 e4 e5;go_wp2;go_ret;exact⟨by rw[HV];rfl,HG.out⟩
  have hin:=Ft.inline_any typ;rw[Z6,hnear] at hin;have HIN:=zh hin;clear hin;have HRT2:Hid (res=if cO d typ pos par wid lim=false then false else if KM typ=true then qO d typ pos par wid (pos - (yF d pos par).1) t else JK d typ wid (pos - (yF d pos par).1) t):=by show _=_;rw[HRS.out,ze (by rw[Z6,hnear];decide)]
  obtain⟨f,HF,zS⟩:∃f,Hid ((KM typ=true∧lv=fF f∧(f=206∨f=207∨f=208∨f=209∨f=210∨f=211∨f=212))∨(KM typ=false∧lv=.nilFunc∧f=172))∧Hid (∀(w:World) (at_:Int),j6 w (.slice da d.length dc) d→jM w t (.agg #[.int .i64 tk,.int .i64 tn,.int .u64 tu,.string ts,.slice ta4 tn4 tc4,.slice ta5 tn5 tc5])→0≤at_∧at_≤1048576→Calls prog f #[.slice da d.length dc,.agg #[.int .i64 pos,.int .i64 par,.int .i64 typ,.int .i64 wid],.int .i64 at_,.agg #[.int .i64 tk,.int .i64 tn,.int .u64 tu,.string ts,.slice ta4 tn4 tc4,.slice ta5 tn5 tc5]] w λr w'=>r=.returned (.bool (if KM typ=true then qO d typ pos par wid at_ t else JK d typ wid at_ t))∧jC w w'):=by
   cases hfar:KM typ
   ·refine⟨172,.inr ⟨rfl,?_,rfl⟩,λw at_ h1 h2 h3=>?_⟩
    ·rw[← HLV.out,BQ typ HLG.out hnear hfar]
    rw[ze zd];exact hl hnear hfar _ pos par wid at_ _ w h1 h2 h3 HWW.out
   obtain⟨j,f,hf,hfc,hcall⟩:=pB d typ (.inr hfar);refine⟨f,.inl ⟨rfl,?_,hfc⟩,λw at_ h1 h2 h3=>?_⟩
   ·rw[← HLV.out,hf]
   rw[zl rfl];exact hcall _ pos par wid at_ t _ w h1 h2 hp h3 hs HWW.out
  have HLW:Hid ((lv=fF f∧(f=206∨f=207∨f=208∨f=209∨f=210∨f=211∨f=212))∨(lv=.nilFunc∧f=172)):=HF.elim (λh=>.inl h.2) (λh=>.inr h.2);clear HF;have HNU:=zh (Z4 d (.slice da d.length dc) pos par);have HNB:=zh (rQ d pos par HDL.out)
  have hwrg:IntKind.i64.wrap (zL typ*wid)=zL typ*wid∧0≤zL typ*wid∧zL typ*wid≤24:=by
   have h1:=uW typ
   have h2:0≤zL typ*wid∧zL typ*wid≤24:=by
    rcases yL HWW.out with h|h|h|h<;>(rw[h];omega)
   exact⟨by rw[zy];omega,h2⟩
  have HWR:=zh hwrg;clear hwrg;unfold cO at HRT2;obtain⟨q,hq⟩:∃q,yF d pos par=q:=⟨_,rfl⟩;rw[hq] at HRT2 HNU HNB;clear hq;obtain⟨nv,ni⟩:=q;simp only at HRT2 HNU HNB;rcases HLW.out with ⟨e,hfc⟩|⟨e,e2⟩
  ·subst e;have HFC:=zh hfc;clear hfc;have heq:=NE f;unfold fF;skip;go_wp2_with fail;refine (HIN.out w2).mono ?_;rintro r u3 ⟨rfl,hgc⟩;clear c0 c1 c2 c3;clear e0 e1 e2 e3 e4 e5;replace HD:=zh (j6.grew HD.out hgc);replace HT:=zh (jM.grew hgc HT.out);replace HRR:=zh (hgc.heap HRR.out);replace HRT:=zh (hgc.heap HRT.out);replace HG:=zh (HG.trans hgc);clear hgc;obtain⟨c0,c1,c2,c3⟩:=sqr4 HRR;obtain⟨e0,e1,e2,e3,e4,e5⟩:=sqr6 HRT;go_wp2_with fail;refine (HNU.out u3 HD.out hp).mono ?_;rintro r u4 ⟨rfl,hgc⟩;clear c0 c1 c2 c3;clear e0 e1 e2 e3 e4 e5;replace HD:=zh (j6.grew HD.out hgc);replace HT:=zh (jM.grew hgc HT.out);replace HRR:=zh (hgc.heap HRR.out);replace HRT:=zh (hgc.heap HRT.out);replace HG:=zh (HG.trans hgc);clear hgc;obtain⟨c0,c1,c2,c3⟩:=sqr4 HRR;obtain⟨e0,e1,e2,e3,e4,e5⟩:=sqr6 HRT;go_upto_region 11 with fail;cases ni
   ·have HV:Hid (res=false):=(by show _=_;rw[HRT2];rfl);go_quiet (fail);have HGF:=zh (HG.trans ((jC.refl u4).drewN nq));go_wp2;go_ret;exact⟨by rw[HV];rfl,HGF.out⟩
   by_cases hle:nv≤pos;rotate_left
   ·have HV:Hid (res=false):=(by show _=_;rw[HRT2,decide_eq_false hle];rfl);have hgt:pos < nv:=(by omega);clear hle;go_quiet (fail);have HGF:=zh (HG.trans ((jC.refl u4).drewN nq));go_wp2;go_ret;exact⟨by rw[HV];rfl,HGF.out⟩
   obtain⟨hb1,hb2,hb3⟩:=HNB.out rfl;have hws:IntKind.i64.wrap (pos - nv)=pos - nv:=by rw[zy];omega
   have hwa:=HWR.1;have hwb:IntKind.i64.wrap (pos - nv - zL typ*wid)=pos - nv - zL typ*wid:=by have:=HWR.2;rw[zy];omega
   have HAT:Hid (0≤pos - nv∧pos - nv≤1048576):=⟨by omega,by omega⟩;have HPN:Hid (0≤nv):=hb3;have HLE:=zh hle;clear hb1 hb2 hb3;obtain⟨bl,hbl⟩:∃b,decide (lim≤pos - nv - zL typ*wid)=b:=⟨_,rfl⟩;have HBL:=zh hbl;clear hbl
   have HRB:Hid (res=if bl=true then false else if KM typ=true then qO d typ pos par wid (pos - nv) t else JK d typ wid (pos - nv) t):=by
    show _=_;rw[HRT2,qt hle,← HBL.out];by_cases hlt:pos - nv - zL typ*wid < lim
    ·rw[qt hlt,decide_eq_false zo];rfl
    rw[decide_eq_false hlt,qt zo];rfl
   refine sqH jC [[],[0],[0,1],[0,1,2],[0,1,2],[0,1,2,4],[0,1,2,3,4,5],[0,1,2,3,4,5,6],[0,1,2,3,4,5,6,7],[0,1,2,3,4,5,6,7,8],[0,1,2,3,4,5,6,7,8,9],[0,1,2,3,4,5,6,7,8],[0,1,2,3,4,5,6,7,8,9,10,11],[0,1,2,3,4,5,6,7,8],[0,1,2,3,4,5,6,7,8,13],[0,1,2,3,4,5,6,7,8,13,14],[0,1,2,3,4,5,6,7,8],[0,1,2,3,4,5,6,7,8,16],[0,1,2,3,4,5,6,7,8,13,14,15,16,17],[0,1,2,3,4,5,6,7,8,9,10,11,12,13,14,15,16,17,18],[0,1,2,3,4,5,6,7,8],[0,1,2,3,4,5,6,7,8,9,10,11,12,13,14,15,16,17,18,19,20],[0,1,2,3,4,5,6,7,8,9,10,11,12,13,14,15,16,17,18,19,20,21]] [(63,0),(64,1),(65,2),(66,3),(67,4),(68,5),(69,6),(70,7),(71,8),(72,9),(73,10),(74,11),(75,12),(76,13),(77,14),(78,15),(79,16),(80,17),(81,18),(82,19),(83,20),(84,21),(85,22)]
    [Is (.bool true),Is (.bool false),Is (.bool false),Is (.int .i64 nv),Is (.pointer (some ⟨pr,0,none⟩)),Is (.int .i64 pos),Is (.bool false),Is (.bool false),Is (.bool false),Is (.pointer (some ⟨pr,0,none⟩)),Is (.int .i64 pos),Is (.int .i64 nv),Is (.int .i64 (pos - nv)),Is (.pointer (some ⟨pr,2,none⟩)),Is (.int .i64 typ),Is (.int .i64 (zL typ)),Is (.pointer (some ⟨pr,3,none⟩)),Is (.int .i64 wid),Is (.int .i64 (zL typ*wid)),Is (.int .i64 (pos - nv - zL typ*wid)),Is (.int .i64 lim),Is (.bool bl),Is (.bool bl)]
    sqc zk jC.trans jC.refl (jC.refl _).drew zk ⟨jJ,jJ,jJ,jJ,jJ,jJ,jJ,jJ,jJ,jJ,jJ,jJ,jJ,jJ,jJ,jJ,jJ,jJ,jJ,jJ,jJ,jJ,jJ,trivial⟩ ?_ rfl ?_
   rotate_left
   ·intro y w2 hG hF;simp only[zV,Is,and_true,Nat.reduceAdd] at hF;have hlast:=hF.2.2.2.2.2.2.2.2.2.2.2.2.2.2.2.2.2.2.2.2.2.2;clear hF;simp only[jF,Act.put,zq,hlast];have hgc:=hG;clear hG hlast;clear c0 c1 c2 c3;clear e0 e1 e2 e3 e4 e5;replace HD:=zh (j6.grew HD.out hgc);replace HT:=zh (jM.grew hgc HT.out);replace HRR:=zh (hgc.heap HRR.out);replace HRT:=zh (hgc.heap HRT.out);replace HG:=zh (HG.trans hgc);clear hgc;obtain⟨c0,c1,c2,c3⟩:=sqr4 HRR;obtain⟨e0,e1,e2,e3,e4,e5⟩:=sqr6 HRT;cases bl;rotate_left
    ·have HV:Hid (res=false):=(by show _=_;rw[HRB];rfl);go_wp2;go_ret;exact⟨by rw[HV];rfl,HG.out⟩
    have HV:Hid (res=if KM typ=true then qO d typ pos par wid (pos - nv) t else JK d typ wid (pos - nv) t):=(by show _=_;rw[HRB];rfl);rcases HFC.out with e|e|e|e|e|e|e
    all_goals
    subst e;have hcl:=zS.out w2 (pos - nv) HD.out HT.out HAT.out;rw[← HV.out] at hcl;have HCL:=zh hcl;clear hcl;go_wp2_with fail;refine (HCL.out).mono ?_;rintro r u5 ⟨rfl,hgc⟩;replace HD:=zh (j6.grew HD.out hgc);replace HT:=zh (jM.grew hgc HT.out);replace HRR:=zh (hgc.heap HRR.out);replace HRT:=zh (hgc.heap HRT.out);replace HG:=zh (HG.trans hgc);clear hgc;clear c0 c1 c2 c3;clear e0 e1 e2 e3 e4 e5;go_wp2;go_ret;exact⟨rfl,HG.out⟩
   refine⟨zsh,zsh,zsh,zsh,zsh,?_⟩;constructor
   ·exact A7
   constructor
   ·exact zb95
   refine⟨zsh,zsh,zsh,?_⟩;constructor
   ·exact A7
   refine⟨zsh,zsh,zsh,?_⟩;constructor
   ·exact A7
   constructor
   ·exact zb96
   refine⟨zsh,?_⟩;constructor
   ·exact A7
   refine⟨zsh,zsh,zsh,?_⟩;constructor
   ·exact zb97
   refine⟨zsh,?_⟩;trivial
  subst e;have heq:=eql_nil;subst e2;skip;go_wp2_with fail;refine (HIN.out w2).mono ?_;rintro r u3 ⟨rfl,hgc⟩;clear c0 c1 c2 c3;clear e0 e1 e2 e3 e4 e5;replace HD:=zh (j6.grew HD.out hgc);replace HT:=zh (jM.grew hgc HT.out);replace HRR:=zh (hgc.heap HRR.out);replace HRT:=zh (hgc.heap HRT.out);replace HG:=zh (HG.trans hgc);clear hgc;obtain⟨c0,c1,c2,c3⟩:=sqr4 HRR;obtain⟨e0,e1,e2,e3,e4,e5⟩:=sqr6 HRT;go_wp2_with fail;refine (HNU.out u3 HD.out hp).mono ?_;rintro r u4 ⟨rfl,hgc⟩;clear c0 c1 c2 c3;clear e0 e1 e2 e3 e4 e5;replace HD:=zh (j6.grew HD.out hgc);replace HT:=zh (jM.grew hgc HT.out);replace HRR:=zh (hgc.heap HRR.out);replace HRT:=zh (hgc.heap HRT.out);replace HG:=zh (HG.trans hgc);clear hgc;obtain⟨c0,c1,c2,c3⟩:=sqr4 HRR;obtain⟨e0,e1,e2,e3,e4,e5⟩:=sqr6 HRT;go_upto_region 11 with fail;cases ni
  ·have HV:Hid (res=false):=(by show _=_;rw[HRT2];rfl);go_quiet (fail);have HGF:=zh (HG.trans ((jC.refl u4).drewN nq));go_wp2;go_ret;exact⟨by rw[HV];rfl,HGF.out⟩
  by_cases hle:nv≤pos;rotate_left
  ·have HV:Hid (res=false):=(by show _=_;rw[HRT2,decide_eq_false hle];rfl);have hgt:pos < nv:=(by omega);clear hle;go_quiet (fail);have HGF:=zh (HG.trans ((jC.refl u4).drewN nq));go_wp2;go_ret;exact⟨by rw[HV];rfl,HGF.out⟩
  obtain⟨hb1,hb2,hb3⟩:=HNB.out rfl;have hws:IntKind.i64.wrap (pos - nv)=pos - nv:=by rw[zy];omega
  have hwa:=HWR.1;have hwb:IntKind.i64.wrap (pos - nv - zL typ*wid)=pos - nv - zL typ*wid:=by have:=HWR.2;rw[zy];omega
  have HAT:Hid (0≤pos - nv∧pos - nv≤1048576):=⟨by omega,by omega⟩;have HPN:Hid (0≤nv):=hb3;have HLE:=zh hle;clear hb1 hb2 hb3;obtain⟨bl,hbl⟩:∃b,decide (lim≤pos - nv - zL typ*wid)=b:=⟨_,rfl⟩;have HBL:=zh hbl;clear hbl
  have HRB:Hid (res=if bl=true then false else if KM typ=true then qO d typ pos par wid (pos - nv) t else JK d typ wid (pos - nv) t):=by
   show _=_;rw[HRT2,qt hle,← HBL.out];by_cases hlt:pos - nv - zL typ*wid < lim
   ·rw[qt hlt,decide_eq_false zo];rfl
   rw[decide_eq_false hlt,qt zo];rfl
  refine sqH jC [[],[0],[0,1],[0,1,2],[0,1,2],[0,1,2,4],[0,1,2,3,4,5],[0,1,2,3,4,5,6],[0,1,2,3,4,5,6,7],[0,1,2,3,4,5,6,7,8],[0,1,2,3,4,5,6,7,8,9],[0,1,2,3,4,5,6,7,8],[0,1,2,3,4,5,6,7,8,9,10,11],[0,1,2,3,4,5,6,7,8],[0,1,2,3,4,5,6,7,8,13],[0,1,2,3,4,5,6,7,8,13,14],[0,1,2,3,4,5,6,7,8],[0,1,2,3,4,5,6,7,8,16],[0,1,2,3,4,5,6,7,8,13,14,15,16,17],[0,1,2,3,4,5,6,7,8,9,10,11,12,13,14,15,16,17,18],[0,1,2,3,4,5,6,7,8],[0,1,2,3,4,5,6,7,8,9,10,11,12,13,14,15,16,17,18,19,20],[0,1,2,3,4,5,6,7,8,9,10,11,12,13,14,15,16,17,18,19,20,21]] [(63,0),(64,1),(65,2),(66,3),(67,4),(68,5),(69,6),(70,7),(71,8),(72,9),(73,10),(74,11),(75,12),(76,13),(77,14),(78,15),(79,16),(80,17),(81,18),(82,19),(83,20),(84,21),(85,22)]
   [Is (.bool true),Is (.bool false),Is (.bool false),Is (.int .i64 nv),Is (.pointer (some ⟨pr,0,none⟩)),Is (.int .i64 pos),Is (.bool false),Is (.bool false),Is (.bool false),Is (.pointer (some ⟨pr,0,none⟩)),Is (.int .i64 pos),Is (.int .i64 nv),Is (.int .i64 (pos - nv)),Is (.pointer (some ⟨pr,2,none⟩)),Is (.int .i64 typ),Is (.int .i64 (zL typ)),Is (.pointer (some ⟨pr,3,none⟩)),Is (.int .i64 wid),Is (.int .i64 (zL typ*wid)),Is (.int .i64 (pos - nv - zL typ*wid)),Is (.int .i64 lim),Is (.bool bl),Is (.bool bl)]
   sqc zk jC.trans jC.refl (jC.refl _).drew zk ⟨jJ,jJ,jJ,jJ,jJ,jJ,jJ,jJ,jJ,jJ,jJ,jJ,jJ,jJ,jJ,jJ,jJ,jJ,jJ,jJ,jJ,jJ,jJ,trivial⟩ ?_ rfl ?_
  rotate_left
  ·intro y w2 hG hF;simp only[zV,Is,and_true,Nat.reduceAdd] at hF;have hlast:=hF.2.2.2.2.2.2.2.2.2.2.2.2.2.2.2.2.2.2.2.2.2.2;clear hF;simp only[jF,Act.put,zq,hlast];have hgc:=hG;clear hG hlast;clear c0 c1 c2 c3;clear e0 e1 e2 e3 e4 e5;replace HD:=zh (j6.grew HD.out hgc);replace HT:=zh (jM.grew hgc HT.out);replace HRR:=zh (hgc.heap HRR.out);replace HRT:=zh (hgc.heap HRT.out);replace HG:=zh (HG.trans hgc);clear hgc;obtain⟨c0,c1,c2,c3⟩:=sqr4 HRR;obtain⟨e0,e1,e2,e3,e4,e5⟩:=sqr6 HRT;cases bl;rotate_left
   ·have HV:Hid (res=false):=(by show _=_;rw[HRB];rfl);go_wp2;go_ret;exact⟨by rw[HV];rfl,HG.out⟩
   have HV:Hid (res=if KM typ=true then qO d typ pos par wid (pos - nv) t else JK d typ wid (pos - nv) t):=(by show _=_;rw[HRB];rfl);have hcl:=zS.out w2 (pos - nv) HD.out HT.out HAT.out;rw[← HV.out] at hcl;have HCL:=zh hcl;clear hcl;go_wp2_with fail;refine (HCL.out).mono ?_;rintro r u5 ⟨rfl,hgc⟩;replace HD:=zh (j6.grew HD.out hgc);replace HT:=zh (jM.grew hgc HT.out);replace HRR:=zh (hgc.heap HRR.out);replace HRT:=zh (hgc.heap HRT.out);replace HG:=zh (HG.trans hgc);clear hgc;clear c0 c1 c2 c3;clear e0 e1 e2 e3 e4 e5;go_wp2;go_ret;exact⟨rfl,HG.out⟩
  refine⟨zsh,zsh,zsh,zsh,zsh,?_⟩;constructor
  ·exact A7
  constructor
  ·exact zb95
  refine⟨zsh,zsh,zsh,?_⟩;constructor
  ·exact A7
  refine⟨zsh,zsh,zsh,?_⟩;constructor
  ·exact A7
  constructor
  ·exact zb96
  refine⟨zsh,?_⟩;constructor
  ·exact A7
  refine⟨zsh,zsh,zsh,?_⟩;constructor
  ·exact zb97
  refine⟨zsh,?_⟩;trivial
 constructor
 ·intro y w2 hG hD K hK;simp only[jF,Act.put,zq,Is] at hK⊢;refine jN ?_;go_simp;refine (ER w2).mono ?_;rintro r w3 ⟨b,rfl,_,hm,hg3⟩;exact hK _ _ _ rfl hg3 ⟨b,rfl,hm⟩
 refine⟨zst,?_⟩;constructor
 ·intro y w2 hG hD K hK;have dc0:=hG.cell c0;have dc1:=hG.cell c1;have dc2:=hG.cell c2;have dc3:=hG.cell c3;exact zsr
 constructor
 ·intro y w2 hG hD K hK;simp only[kC,zq4,zq5,Is,and_true] at hD;have h0:=hD.1;simp only[jF,Act.put,zq,Is] at hK⊢;simp only[hD] at hK⊢;clear hD;refine jN ?_;obtain⟨b,eb,hm⟩:=h0;rw[eb] at hK⊢;have hz:=GG w2;have hlk:=lookI w2 underlying209 underlying3 hz b cN hm typ;replace hlk:=hlk.trans (ql (λv=>Result.ok v w2) HLV.out);go_simp;exact hK _ _ _ rfl (jC.refl _) rfl
 refine⟨zst,?_⟩;trivial
end Go.Proofs.YtdjoffgkndncfaaGreat
