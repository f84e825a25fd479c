/-Texts-/
import Derived.Test.YtdjoffgkndncfaaGreatDOtherPBT
import Derived.Test.YtdjoffgkndncfaaGreatDOtherPAW
set_option linter.unusedVariables false
set_option linter.unusedSimpArgs false
set_option maxHeartbeats 16000000
set_option maxRecDepth 100000
namespace Go.Proofs.YtdjoffgkndncfaaGreat
open Go.Proofs.Tryz
open Go Go.ChangeShapes Go.WideShapes Go.ChangeAt Go.RowKit Go.Joins Go.Deep
def gI (d:List UInt8) (typ:Int) (t:Tr):Prop:=∀(dv:Value) (pos par wid lim:Int) (tv:Value) (w:World),j6 w dv d→jM w t tv→kY pos →
 Calls prog 115 #[dv,.agg #[.int .i64 pos,.int .i64 par,.int .i64 typ,.int .i64 wid],.int .i64 lim,tv] w λr w'=>r=.returned (.bool (JY d typ pos par wid lim t))∧jC w w'
def dG (d:List UInt8) (l:List ByteArray):Prop:=∀(dv:Value) (first x:Int) (kv:Value) (w:World),j6 w dv d→zB w kv l→0≤first∧first≤1048576→isW x=true →
 Calls prog 215 #[dv,.int .i64 first,.int .i64 x,kv] w λr w'=>r=.returned (.bool (QY d first x l))∧jC w w'
theorem QI (t:Int):0≤(kA t).2∧(kA t).2≤4∧((kA t).1=17∨(kA t).1=10→(kA t).2=0):=by
 have he:0≤(Ft.elemF t).2.1∧(Ft.elemF t).2.1≤4:=by
  by_cases h:0≤t∧t≤36
  ·obtain⟨k,rfl⟩:=Int.eq_ofNat_of_zero_le h.1;have:∀k:Fin 37,0≤(Ft.elemF ((k:Nat):Int)).2.1∧(Ft.elemF ((k:Nat):Int)).2.1≤4:=by decide +kernel
   exact this ⟨k,by omega⟩
  have h0:Ft.kindOf t=(0,0,0):=by
   unfold Ft.kindOf;split
   ·rfl
   unfold Ft.kindRow
   split<;>first | rfl | omega
  unfold Ft.elemF;rw[h0];decide
 unfold kA
 repeat' split
 all_goals (refine⟨?_,?_,λh=>?_⟩<;>simp only at *<;>omega)
theorem Q8 {d:List UInt8} {typ w at_ kd many k n u:Int} {s:ByteArray} {keys:List ByteArray} {l:List Tr} (hsh:kA typ=(kd,many)):JK d typ w at_ (.mk k n u s keys l) =
 (yB (.mk k n u s (if kd=17 then [] else keys) []) kd 0 0 EMB && decide (at_ % w=0) && decide (at_+l.length*w+(if vK kd=true then (l.length:Int) else 0)≤d.length) &&
  (if many=0 then (yF d (at_ - w) w).2 && decide ((yF d (at_ - w) w).1=l.length) else decide ((l.length:Int)=many)) &&
  (if kd=17 then decide (0≤at_ - 3*w) && decide (keys.length=l.length) && QY d (at_ - 3*w) w keys else true) && JD d typ w at_ l.length 0 l):=by
 unfold JK lW yB;rw[hsh];simp only[Tr.kind,Tr.fn,Tr.fu,Tr.fs,Tr.keys,Tr.kids];by_cases h17:kd=17
 ·subst h17;have h1:vK 17=true:=by decide
  by_cases hm0:many=0<;>simp[h1,hm0,Bool.and_assoc]<;>(try rfl)
 cases ht:vK kd<;>by_cases hm0:many=0<;>simp[h17,ht,hm0,Bool.and_assoc]<;>(try rfl)
theorem CZ (d:List UInt8) (typ k n u:Int) (s:ByteArray) (keys:List ByteArray) (l:List Tr) (hl:l.length≤4096) (hkl4:keys.length≤4096) (zN:∀x∈l,∀typ',((kA typ).1=10∨(kA typ).1=17∨typ'=(Ft.elemF typ).1)→gI d typ' x) (vC:(kA typ).1=17→dG d keys) (hcase:(kA typ).1=17):VU d typ (.mk k n u s keys l):=by
 intro dv pos par wid at_ tv w hD hn ha hw;simp only[jM] at hn;obtain⟨hb,kv,lv,vs,rfl,hks,hrl,hkd⟩:=hn;have hkl:=hkd.length;have HD:=zh hD;have HKS:=zh hks;have HB:=zh hb;have hdl:=hD.2.1;obtain⟨da,dc,rfl,hdc⟩:=hD.form;obtain⟨a4,c4,rfl,hk1,hk2,hk3⟩:=hks;have HRL:=zh hrl;obtain⟨a5,c5,rfl,hl1,hl2,hl3,hl4⟩:=hrl;rw[hkl] at HRL hl1⊢;have HKD:=zh hkd;have HHK:=zh zN;have HKY:=zh vC;have HW:=zh hw;have hlc:(l.length:Int)≤c5:=by omega
 clear hD hb hk1 hk2 hk3 hl2 hl3 hl4 hkd hkl zN vC hl1;have hw1:1≤wid∧wid≤8:=by rcases yL hw with rfl | rfl | rfl | rfl<;>omega
 have hnw:0≤(l.length:Int)*wid∧(l.length:Int)*wid≤32768:=by
  refine⟨Int.mul_nonneg zo zo,?_⟩;have h1:=Int.mul_le_mul (show (l.length:Int)≤4096 by omega) hw1.2 zo zo;omega
 have HSR:=zh (QI typ);obtain⟨q,hq⟩:∃q,kA typ=q:=⟨_,rfl⟩;rw[hq] at HSR;have hshp:=bJ typ;rw[hq] at hshp;have HSP:=zh hshp;clear hshp;obtain⟨kd,many⟩:=q;simp only at HSR HSP;obtain⟨res,j7⟩:∃b,JK d typ wid at_ (.mk k n u s keys l)=b:=⟨_,rfl⟩;rw[j7];have zJ:=zh j7;clear j7;rw[Q8 hq] at zJ;have h17:kd=17:=by rw[hq] at hcase;exact hcase
 clear hcase;have HQ:=zh hq;clear hq;have HG:=zh (jC.refl w);go_enter func172,ntmps172;go_upto_region 1 with fail;obtain⟨pr,hpr⟩:∃N,w.heap.size=N:=⟨_,rfl⟩;have HPR:=zh hpr;obtain⟨hr1,hga⟩:=sqal w (.cells #[.int .i64 pos,.int .i64 par,.int .i64 typ,.int .i64 wid] 88);have hz1:(w.alloc (.cells #[.int .i64 pos,.int .i64 par,.int .i64 typ,.int .i64 wid] 88)).heap.size=pr+1:=by rw[zm,hpr]
 generalize w.alloc _=x1 at *;rw[hpr] at hr1⊢;obtain⟨hr2,hgb⟩:=sqal x1 (.cells #[.int .i64 k,.int .i64 n,.int .u64 u,.string s,.slice a4 keys.length c4,.slice a5 l.length c5] 26);generalize x1.alloc _=x2 at *;rw[hz1] at hr2
 try rw[hz1]
 have HRR:=zh (hgb.heap hr1);have HRT:=zh hr2;replace HG:=zh (hga.trans hgb);clear hr1 hr2 hz1 hpr hga hgb;obtain⟨c0,c1,c2,c3⟩:=sqr4 HRR;obtain⟨e0,e1,e2,e3,e4,e5⟩:=sqr6 HRT;go_quiet (fail);have hgc:=(jC.refl x2).drewN nq;obtain⟨x3,hx3⟩:∃x3,x2.drewN nq=x3:=⟨_,rfl⟩;rw[hx3] at hgc⊢;clear hx3;clear c0 c1 c2 c3;clear e0 e1 e2 e3 e4 e5;replace HRR:=zh (hgc.heap HRR.out);replace HRT:=zh (hgc.heap HRT.out);replace HG:=zh (HG.trans hgc);clear hgc;obtain⟨c0,c1,c2,c3⟩:=sqr4 HRR;obtain⟨e0,e1,e2,e3,e4,e5⟩:=sqr6 HRT;go_wp2_with fail;refine (HSP.out x3).mono ?_;rintro r u1 ⟨rfl,hgc⟩;clear c0 c1 c2 c3;clear e0 e1 e2 e3 e4 e5;replace HRR:=zh (hgc.heap HRR.out);replace HRT:=zh (hgc.heap HRT.out);replace HG:=zh (HG.trans hgc);clear hgc;obtain⟨c0,c1,c2,c3⟩:=sqr4 HRR;obtain⟨e0,e1,e2,e3,e4,e5⟩:=sqr6 HRT;have hws:IntKind.i64.wrap ((l.length:Int)*wid)=(l.length:Int)*wid:=by rw[zy];omega
 have hwe:IntKind.i64.wrap (at_+(l.length:Int)*wid)=at_+(l.length:Int)*wid:=by rw[zy];omega
 have hwt:IntKind.i64.wrap (at_+(l.length:Int)*wid+l.length)=at_+(l.length:Int)*wid+l.length:=by rw[zy];omega
 have hwf:IntKind.i64.wrap (at_ - wid)=at_ - wid:=by rw[zy];omega
 have hw3:IntKind.i64.wrap (3*wid)=3*wid:=by rw[zy];omega
 have hwm3:IntKind.i64.wrap (at_ - 3*wid)=at_ - 3*wid:=by rw[zy];omega
 have ht:Int.tmod at_ wid=at_ % wid:=Int.tmod_eq_emod_of_nonneg ha.1;have hwz:(wid == 0)=false:=by rw[beq_eq_false_iff_ne];omega
 have hm0:0≤at_ % wid∧at_ % wid < 8:=⟨xg _ zo,Int.lt_of_lt_of_le (xd _ zo) hw1.2⟩;have hwm:IntKind.i64.wrap (at_ % wid)=at_ % wid:=by rw[zy];omega
 obtain⟨md,hmd⟩:∃q,at_ % wid=q:=⟨_,rfl⟩;rw[hmd] at ht hwm hm0 zJ;clear hmd;obtain⟨K0,hK0⟩:∃b,JD d typ wid at_ l.length 0 l=b:=⟨_,rfl⟩;rw[hK0] at zJ;have HK0:=zh hK0;clear hK0;obtain rfl:many=0:=HSR.2.2 (.inl h17);subst h17;go_upto_region 5 with fail;have hf4:=jE HRT.out 4;go_upto_region 6 with fail;have hrt2:=heap_setCell_same u1 (pr+1) 4 _ _ (.slice none 0 0) HRT.out;have hg2:jC w (u1.setCell ⟨pr+1,4,none⟩ (.slice none 0 0)):=HG.setCell (by show w.heap.size≤pr+1;rw[HPR];omega) _;have hm2:Moved (λg=>g=pr+1) u1 (u1.setCell ⟨pr+1,4,none⟩ (.slice none 0 0)):=Moved.setCell (S:=λg=>g=pr+1) (p:=⟨pr+1,4,none⟩) (Moved.refl _ u1) (λ_=>rfl) _;have hrr2:=hm2.heap HRR.out zo;generalize (u1.setCell ⟨pr+1,4,none⟩ (.slice none 0 0))=u2 at *;replace HRR:=zh hrr2;replace HRT:=zh hrt2;replace HG:=zh hg2;clear hrt2 hg2 hm2 hrr2 hf4;clear c0 c1 c2 c3;clear e0 e1 e2 e3 e4 e5;obtain⟨c0,c1,c2,c3⟩:=sqr4 HRR;obtain⟨e0,e1,e2,e3,e4,e5⟩:=sqr6 HRT;go_upto_region 8 with fail;obtain⟨hrp,hgc⟩:=sqal u2 (.cells #[.int .i64 k,.int .i64 n,.int .u64 u,.string s,.slice none 0 0,.slice none 0 0] 26);obtain⟨pp,hpp⟩:∃N,u2.heap.size=N:=⟨_,rfl⟩;generalize u2.alloc _=u3 at *;rw[hpp] at hrp⊢;have HRP:=zh hrp;clear hrp hpp;clear c0 c1 c2 c3;clear e0 e1 e2 e3 e4 e5;replace HRR:=zh (hgc.heap HRR.out);replace HRT:=zh (hgc.heap HRT.out);replace HG:=zh (HG.trans hgc);clear hgc;obtain⟨c0,c1,c2,c3⟩:=sqr4 HRR;obtain⟨e0,e1,e2,e3,e4,e5⟩:=sqr6 HRT;obtain⟨p0,p1,p2,p3,p4,p5⟩:=sqr6 HRP;obtain⟨b0,hb0⟩:∃b,yB (.mk k n u s [] []) 17 0 0 EMB=b:=⟨_,rfl⟩;have HB0:=zh hb0;clear hb0;have HRS:Hid (res=(b0 && decide (md=0) && decide (at_+(l.length:Int)*wid+(l.length:Int)≤d.length) && ((yF d (at_ - wid) wid).2 && decide ((yF d (at_ - wid) wid).1=l.length)) && (decide (0≤at_ - 3*wid) && decide (keys.length=l.length) && QY d (at_ - 3*wid) wid keys) && K0)):=by show _=_;rw[← zJ.out,← HB0.out];rfl
 have hnp:jM u3 (.mk k n u s [] []) (.agg #[.int .i64 k,.int .i64 n,.int .u64 u,.string s,.slice none 0 0,.slice none 0 0]):=⟨HB.out,_,_,[],rfl,zB.nil _,y9.nil _,rfl⟩;have hh:=JJ _ _ 17 0 0 ⟨#[]⟩ _ hnp;rw[show yB (.mk k n u s [] []) 17 0 0 ⟨#[]⟩=b0 from HB0.out] at hh;have HH:=zh hh;clear hh hnp;go_wp2_with fail;refine HH.mono ?_;rintro r u4 ⟨rfl,hgc⟩;clear c0 c1 c2 c3;clear e0 e1 e2 e3 e4 e5;clear p0 p1 p2 p3 p4 p5;replace HRR:=zh (hgc.heap HRR.out);replace HRT:=zh (hgc.heap HRT.out);replace HG:=zh (HG.trans hgc);clear hgc;obtain⟨c0,c1,c2,c3⟩:=sqr4 HRR;obtain⟨e0,e1,e2,e3,e4,e5⟩:=sqr6 HRT;cases b0
 ·exact zb98
 by_cases hmd0:md=0;rotate_left
 ·exact zb99
 subst hmd0;by_cases hend:at_+(l.length:Int)*wid+(l.length:Int)≤d.length;rotate_left
 ·exact zb100
 obtain⟨nn,hnn⟩:∃q,yF d (at_ - wid) wid=q:=⟨_,rfl⟩;have hnum:=Z4 d (.slice da d.length dc) (at_ - wid) wid;rw[hnn] at HRS hnum;have HNU:=zh hnum;clear hnn hnum;obtain⟨nv,ni⟩:=nn;simp only at HRS HNU;go_wp2_with fail;refine (HNU.out u4 (HD.grew HG.out) zp8).mono ?_;rintro r u5 ⟨rfl,hgc⟩;clear c0 c1 c2 c3;clear e0 e1 e2 e3 e4 e5;replace HRR:=zh (hgc.heap HRR.out);replace HRT:=zh (hgc.heap HRT.out);replace HG:=zh (HG.trans hgc);clear hgc;obtain⟨c0,c1,c2,c3⟩:=sqr4 HRR;obtain⟨e0,e1,e2,e3,e4,e5⟩:=sqr6 HRT;cases ni
 ·exact zb98
 by_cases hnv:nv=(l.length:Int);rotate_left
 ·exact zb101
 have hbx:(nv != (l.length:Int))=false:=by simpa using hnv
 by_cases hf0:0≤at_ - 3*wid;rotate_left
 ·have hlt0:at_ - 3*wid < 0:=by omega
  have HV:Hid (res=false):=by show _=_;rw[HRS];simp[show ¬3*wid≤at_ by omega]
  go_wp2;go_ret;exact⟨by rw[HV];rfl,HG.out⟩
 by_cases hkn:keys.length=l.length;rotate_left
 ·have hbk:((keys.length:Int) != (l.length:Int))=true:=by simp;omega
  have HV:Hid (res=false):=by show _=_;rw[HRS];simp[hkn]
  go_wp2;go_ret;exact⟨by rw[HV];rfl,HG.out⟩
 have hbk:((keys.length:Int) != (l.length:Int))=false:=by simp;omega
 obtain⟨kB,hkB⟩:∃b,QY d (at_ - 3*wid) wid keys=b:=⟨_,rfl⟩;have HKB:=zh hkB;have HRS2:Hid (res=(kB && K0)):=by show _=_;rw[HRS,hkB];simp[hnv,hend,hkn,show 3*wid≤at_ by omega]
 clear hkB;have HKC:=zh (HKY.out (by rw[HQ]) (.slice da d.length dc) (at_ - 3*wid) wid (.slice a4 keys.length c4) u5 (HD.grew HG.out) (HKS.grew HG.out) ⟨hf0,by omega⟩ HW.out);rw[HKB] at HKC;clear hnv hkn;go_wp2_with fail;refine HKC.mono ?_;rintro r u6 ⟨rfl,hgc⟩;clear c0 c1 c2 c3;clear e0 e1 e2 e3 e4 e5;replace HRR:=zh (hgc.heap HRR.out);replace HRT:=zh (hgc.heap HRT.out);replace HG:=zh (HG.trans hgc);clear hgc;obtain⟨c0,c1,c2,c3⟩:=sqr4 HRR;obtain⟨e0,e1,e2,e3,e4,e5⟩:=sqr6 HRT;cases kB
 ·have HV:Hid (res=false):=by show _=_;rw[HRS2];simp
  go_wp2;go_ret;exact⟨by rw[HV];rfl,HG.out⟩
 replace HRS2:Hid (res=K0):=by show _=_;rw[HRS2];simp
 have hel:=Ft.elem_any typ;obtain⟨el,hel2⟩:∃e,Ft.elemF typ=e:=⟨_,rfl⟩;rw[hel2] at hel;have HEL:=zh hel;have HEQ:=zh hel2;clear hel hel2;obtain⟨el1,el2,el3⟩:=el;simp only at HEL;have HFI:Hid (JU typ wid at_=at_ - 3*wid):=by show _=_;unfold JU;rw[HQ];rfl
 have HEO:Hid (∀i:Nat,vY d typ wid at_ l.length i=Ft.unpackF ((d[(at_+(l.length:Int)*wid+i).toNat]?).getD 0).toNat):=λi=>by unfold vY;rw[HQ];rfl
 go_wp2_with fail;refine (HEL.out _).mono ?_;rintro r u7 ⟨rfl,hgc⟩;clear c0 c1 c2 c3;clear e0 e1 e2 e3 e4 e5;replace HRR:=zh (hgc.heap HRR.out);replace HRT:=zh (hgc.heap HRT.out);replace HG:=zh (HG.trans hgc);clear hgc;obtain⟨c0,c1,c2,c3⟩:=sqr4 HRR;obtain⟨e0,e1,e2,e3,e4,e5⟩:=sqr6 HRT;have HEND:Hid (at_+(l.length:Int)*wid+(l.length:Int)≤d.length):=hend;go_upto_region 27 with fail;go_wp2_with fail;clear c0 c1 c2 c3;clear e0 e1 e2 e3 e4 e5
 go_loopw [136] (λi wr=>∃kk:Nat,kk≤l.length∧i=.int .i64 kk∧Hid (jC u7 wr∧K0=JD d typ wid at_ l.length kk (l.drop kk))) (λi _=>l.length - (intOf i).toNat)
 case atStart=>exact⟨0,Nat.zero_le _,rfl,by show _∧_;exact⟨jC.refl _,by rw[List.drop_zero];exact HK0.symm⟩⟩
 case round=>
  obtain⟨kk,hkk,rfl,HL⟩:=hrel;have HGW:=zh (HG.trans HL.1);by_cases hlt:kk < l.length;rotate_left
  ·exact D8
  obtain⟨x,hx⟩:∃x,l[kk]? = some x:=⟨_,za hlt⟩;obtain⟨xv,hxv,hnx⟩:=HKD.get hx;have hxm:x∈l:=qd hx;have HDR:Hid (l.drop kk=x::l.drop (kk+1)):=by show _=_;rw[List.drop_eq_getElem_cons hlt];congr 1;rw[za hlt] at hx;injection hx
  obtain⟨b,off,rfl,hc6⟩:∃b off,a5=some ⟨b,off,none⟩∧yO wr b (off+kk*6) xv:=by
   obtain⟨a,c,e,_,_,_,h⟩:=HRL.out;injection e with e1 e2 e3;subst e1;obtain⟨b,off,e,h6⟩:=h kk xv hxv;exact⟨b,off,e,h6.grew HGW.out⟩
  obtain⟨xk,xn,xu,xs,xa4,xn4,xc4,xa5,xn5,xc5,rfl⟩:=hnx.node6;obtain⟨f0,f1,f2,f3,f4,f5⟩:=hc6.get;have HNX:=zh (hnx.grew HGW.out);have hlti:(kk:Int) < l.length:=by omega
  have hkw:0≤(kk:Int)*wid∧(kk:Int)*wid≤32768:=by
   refine⟨Int.mul_nonneg zo zo,?_⟩;have h1:=Int.mul_le_mul (show (kk:Int)≤4096 by omega) hw1.2 zo zo;omega
  have hwk:IntKind.i64.wrap ((kk:Int)*wid)=(kk:Int)*wid:=by rw[zy];omega
  have hwk2:IntKind.i64.wrap (at_+(kk:Int)*wid)=at_+(kk:Int)*wid:=by rw[zy];omega
  have HSX:=zh (HHK.out x hxm);clear hc6 hx hxv hnx hxm;have hix:(at_+(l.length:Int)*wid+(kk:Int)).toNat < d.length:=by have:=HEND.out;omega
  have hwx:IntKind.i64.wrap (at_+(l.length:Int)*wid+(kk:Int))=at_+(l.length:Int)*wid+(kk:Int):=by rw[zy];omega
  have hend2:at_+(l.length:Int)*wid+(kk:Int) < d.length:=by have:=HEND.out;omega
  have hpos2:0≤at_+(l.length:Int)*wid+(kk:Int):=by omega
  obtain⟨by_,hby⟩:∃b,d[(at_+(l.length:Int)*wid+(kk:Int)).toNat]? = some b:=⟨_,za hix⟩
  obtain⟨bl,bo,rfl,hcb⟩:∃bl bo,da=some ⟨bl,bo,none⟩∧w.cell? ⟨bl,bo+(at_+(l.length:Int)*wid+(kk:Int)).toNat,none⟩=some (.int .u8 by_.toNat):=by
   obtain⟨⟨a,c,e,_,_,h⟩,_⟩:=HD.out;cases e;obtain⟨bl,bo,e,hc⟩:=h _ by_ hby;exact⟨bl,bo,e,hc⟩
  have hun:=Ft.unpack_any by_.toNat;obtain⟨un,hun2⟩:∃q,Ft.unpackF by_.toNat=q:=⟨_,rfl⟩;rw[hun2] at hun;have HUN:=zh hun;have HEK:Hid (vY d typ wid at_ l.length kk=un):=by show _=_;rw[HEO,hby];exact hun2
  clear hun hun2 hby;obtain⟨own,wide,ue⟩:=un;simp only at HUN;go_upto_region 31 with fail;obtain⟨px,hpx⟩:∃N,wr.heap.size=N:=⟨_,rfl⟩;obtain⟨hrx,hgx⟩:=sqal wr (.cells #[.int .i64 xk,.int .i64 xn,.int .u64 xu,.string xs,.slice xa4 xn4 xc4,.slice xa5 xn5 xc5] 26);have hzx:(wr.alloc (.cells #[.int .i64 xk,.int .i64 xn,.int .u64 xu,.string xs,.slice xa4 xn4 xc4,.slice xa5 xn5 xc5] 26)).heap.size=px+1:=by rw[zm,hpx]
  generalize wr.alloc _=y1 at *;rw[hpx] at hrx⊢;obtain⟨hry,hgy⟩:=sqal y1 (.cells #[.int .i64 (at_+(kk:Int)*wid),.int .i64 wid,.int .i64 el1,.int .i64 wid] 88);generalize y1.alloc _=y2 at *;rw[hzx] at hry
  try rw[hzx]
  have HRX:=zh (hgy.heap hrx);have HRY:=zh hry;have HGY:=zh (hgx.trans hgy);have HPX:=zh hpx;have hcb2:=(HGW.trans HGY.out).cell hcb;clear hrx hry hgx hgy hzx hpx f0 f1 f2 f3 f4 f5;go_wp2_with fail;refine (HUN.out y2 (by exact UInt8.toNat_lt _)).mono ?_;rintro r y3 ⟨rfl,hg4⟩;have HG4:=zh (HGY.trans hg4);have HRX3:=zh (hg4.heap HRX.out);have HRY3:=zh (hg4.heap HRY.out);clear hg4 hcb2;by_cases hue:ue=0;rotate_left
  ·exact zb103
  subst hue;have fy2:=jE HRY3.out 2;have fy3:=jE HRY3.out 3;have cy2:=jA HRY3.out 2 _ rfl;have cy3:=jA HRY3.out 3 _ rfl;go_upto_region 36 with fail;have hry4:=heap_setCell_same _ (px+1) 3 _ _ (.int .i64 wide) (heap_setCell_same y3 (px+1) 2 _ _ (.int .i64 own) HRY3.out);have hmy:Moved (λg=>g=px+1) y3 ((y3.setCell ⟨px+1,2,none⟩ (.int .i64 own)).setCell ⟨px+1,3,none⟩ (.int .i64 wide)):=Moved.setCell (S:=λg=>g=px+1) (p:=⟨px+1,3,none⟩) (Moved.setCell (S:=λg=>g=px+1) (p:=⟨px+1,2,none⟩) (Moved.refl _ y3) (λ_=>rfl) _) (λ_=>rfl) _;have hg5:jC wr ((y3.setCell ⟨px+1,2,none⟩ (.int .i64 own)).setCell ⟨px+1,3,none⟩ (.int .i64 wide)):=Moved.fresh HG4.out hmy (λg e=>by have:=HPX.out;omega);have hrx4:=hmy.heap HRX3.out zo;generalize ((y3.setCell ⟨px+1,2,none⟩ (.int .i64 own)).setCell ⟨px+1,3,none⟩ (.int .i64 wide))=y4 at *;have HG5:=zh hg5;clear hmy hg5 fy2 fy3 cy2 cy3;obtain⟨g0,g1,g2,g3⟩:=sqr4 hry4;obtain⟨f0,f1,f2,f3,f4,f5⟩:=sqr6 hrx4;clear hry4 hrx4;have hsay:=HSX.out own (.inr (.inl (by rw[HQ]))) (.slice (some ⟨bl,bo,none⟩) d.length dc) (at_+(kk:Int)*wid) wid wide (at_ - 3*wid) _ y4 (HD.grew (HGW.trans HG5.out)) (HNX.grew HG5.out) zp8;obtain⟨sB,hsB⟩:∃b,JY d own (at_+(kk:Int)*wid) wid wide (at_ - 3*wid) x=b:=⟨_,rfl⟩;rw[hsB] at hsay;have HKX:Hid (K0=(sB && JD d typ wid at_ l.length (kk+1) (l.drop (kk+1)))):=by show _=_;rw[HL.2,HDR,JD,HEK];simp only;rw[HFI,hsB];rfl
  have HSAY:=zh hsay;clear hsay hsB;go_wp2_with fail;refine HSAY.mono ?_;rintro r y5 ⟨rfl,hg6⟩;have HG6:=zh (HG5.trans hg6);clear hg6 g0 g1 g2 g3 f0 f1 f2 f3 f4 f5;cases sB
  ·exact D9
  go_wp2_with fail;go_roundw
  case rel=>exact⟨kk+1,by omega,by go_num,by
   show _∧_
   exact⟨HL.1.trans HG6.out,by rw[HKX];rfl⟩⟩
  case measure=>simp[intOf];omega
theorem C1 (d:List UInt8) (typ k n u:Int) (s:ByteArray) (keys:List ByteArray) (l:List Tr) (hl:l.length≤4096) (hkl4:keys.length≤4096) (zN:∀x∈l,∀typ',((kA typ).1=10∨(kA typ).1=17∨typ'=(Ft.elemF typ).1)→gI d typ' x) (vC:(kA typ).1=17→dG d keys) (hcase:(kA typ).1=10):VU d typ (.mk k n u s keys l):=by
 intro dv pos par wid at_ tv w hD hn ha hw;simp only[jM] at hn;obtain⟨hb,kv,lv,vs,rfl,hks,hrl,hkd⟩:=hn;have hkl:=hkd.length;have HD:=zh hD;have HKS:=zh hks;have HB:=zh hb;have hdl:=hD.2.1;obtain⟨da,dc,rfl,hdc⟩:=hD.form;obtain⟨a4,c4,rfl,hk1,hk2,hk3⟩:=hks;have HRL:=zh hrl;obtain⟨a5,c5,rfl,hl1,hl2,hl3,hl4⟩:=hrl;rw[hkl] at HRL hl1⊢;have HKD:=zh hkd;have HHK:=zh zN;have HKY:=zh vC;have HW:=zh hw;have hlc:(l.length:Int)≤c5:=by omega
 clear hD hb hk1 hk2 hk3 hl2 hl3 hl4 hkd hkl zN vC hl1;have hw1:1≤wid∧wid≤8:=by rcases yL hw with rfl | rfl | rfl | rfl<;>omega
 have hnw:0≤(l.length:Int)*wid∧(l.length:Int)*wid≤32768:=by
  refine⟨Int.mul_nonneg zo zo,?_⟩;have h1:=Int.mul_le_mul (show (l.length:Int)≤4096 by omega) hw1.2 zo zo;omega
 have HSR:=zh (QI typ);obtain⟨q,hq⟩:∃q,kA typ=q:=⟨_,rfl⟩;rw[hq] at HSR;have hshp:=bJ typ;rw[hq] at hshp;have HSP:=zh hshp;clear hshp;obtain⟨kd,many⟩:=q;simp only at HSR HSP;obtain⟨res,j7⟩:∃b,JK d typ wid at_ (.mk k n u s keys l)=b:=⟨_,rfl⟩;rw[j7];have zJ:=zh j7;clear j7;rw[Q8 hq] at zJ;have h10:kd=10:=by rw[hq] at hcase;exact hcase
 clear hcase;have HQ:=zh hq;clear hq;have HG:=zh (jC.refl w);go_enter func172,ntmps172;go_upto_region 1 with fail;obtain⟨pr,hpr⟩:∃N,w.heap.size=N:=⟨_,rfl⟩;have HPR:=zh hpr;obtain⟨hr1,hga⟩:=sqal w (.cells #[.int .i64 pos,.int .i64 par,.int .i64 typ,.int .i64 wid] 88);have hz1:(w.alloc (.cells #[.int .i64 pos,.int .i64 par,.int .i64 typ,.int .i64 wid] 88)).heap.size=pr+1:=by rw[zm,hpr]
 generalize w.alloc _=x1 at *;rw[hpr] at hr1⊢;obtain⟨hr2,hgb⟩:=sqal x1 (.cells #[.int .i64 k,.int .i64 n,.int .u64 u,.string s,.slice a4 keys.length c4,.slice a5 l.length c5] 26);generalize x1.alloc _=x2 at *;rw[hz1] at hr2
 try rw[hz1]
 have HRR:=zh (hgb.heap hr1);have HRT:=zh hr2;replace HG:=zh (hga.trans hgb);clear hr1 hr2 hz1 hpr hga hgb;obtain⟨c0,c1,c2,c3⟩:=sqr4 HRR;obtain⟨e0,e1,e2,e3,e4,e5⟩:=sqr6 HRT;go_quiet (fail);have hgc:=(jC.refl x2).drewN nq;obtain⟨x3,hx3⟩:∃x3,x2.drewN nq=x3:=⟨_,rfl⟩;rw[hx3] at hgc⊢;clear hx3;clear c0 c1 c2 c3;clear e0 e1 e2 e3 e4 e5;replace HRR:=zh (hgc.heap HRR.out);replace HRT:=zh (hgc.heap HRT.out);replace HG:=zh (HG.trans hgc);clear hgc;obtain⟨c0,c1,c2,c3⟩:=sqr4 HRR;obtain⟨e0,e1,e2,e3,e4,e5⟩:=sqr6 HRT;go_wp2_with fail;refine (HSP.out x3).mono ?_;rintro r u1 ⟨rfl,hgc⟩;clear c0 c1 c2 c3;clear e0 e1 e2 e3 e4 e5;replace HRR:=zh (hgc.heap HRR.out);replace HRT:=zh (hgc.heap HRT.out);replace HG:=zh (HG.trans hgc);clear hgc;obtain⟨c0,c1,c2,c3⟩:=sqr4 HRR;obtain⟨e0,e1,e2,e3,e4,e5⟩:=sqr6 HRT;have hws:IntKind.i64.wrap ((l.length:Int)*wid)=(l.length:Int)*wid:=by rw[zy];omega
 have hwe:IntKind.i64.wrap (at_+(l.length:Int)*wid)=at_+(l.length:Int)*wid:=by rw[zy];omega
 have hwt:IntKind.i64.wrap (at_+(l.length:Int)*wid+l.length)=at_+(l.length:Int)*wid+l.length:=by rw[zy];omega
 have hwf:IntKind.i64.wrap (at_ - wid)=at_ - wid:=by rw[zy];omega
 have hw3:IntKind.i64.wrap (3*wid)=3*wid:=by rw[zy];omega
 have hwm3:IntKind.i64.wrap (at_ - 3*wid)=at_ - 3*wid:=by rw[zy];omega
 have ht:Int.tmod at_ wid=at_ % wid:=Int.tmod_eq_emod_of_nonneg ha.1;have hwz:(wid == 0)=false:=by rw[beq_eq_false_iff_ne];omega
 have hm0:0≤at_ % wid∧at_ % wid < 8:=⟨xg _ zo,Int.lt_of_lt_of_le (xd _ zo) hw1.2⟩;have hwm:IntKind.i64.wrap (at_ % wid)=at_ % wid:=by rw[zy];omega
 obtain⟨md,hmd⟩:∃q,at_ % wid=q:=⟨_,rfl⟩;rw[hmd] at ht hwm hm0 zJ;clear hmd;obtain⟨K0,hK0⟩:∃b,JD d typ wid at_ l.length 0 l=b:=⟨_,rfl⟩;rw[hK0] at zJ;have HK0:=zh hK0;clear hK0;obtain rfl:many=0:=HSR.2.2 (.inr h10);subst h10;go_upto_region 8 with fail;obtain⟨hrp,hgc⟩:=sqal u1 (.cells #[.int .i64 k,.int .i64 n,.int .u64 u,.string s,.slice a4 keys.length c4,.slice none 0 0] 26);obtain⟨pp,hpp⟩:∃N,u1.heap.size=N:=⟨_,rfl⟩;generalize u1.alloc _=u3 at *;rw[hpp] at hrp⊢;have HRP:=zh hrp;clear hrp hpp;clear c0 c1 c2 c3;clear e0 e1 e2 e3 e4 e5;replace HRR:=zh (hgc.heap HRR.out);replace HRT:=zh (hgc.heap HRT.out);replace HG:=zh (HG.trans hgc);clear hgc;obtain⟨c0,c1,c2,c3⟩:=sqr4 HRR;obtain⟨e0,e1,e2,e3,e4,e5⟩:=sqr6 HRT;obtain⟨p0,p1,p2,p3,p4,p5⟩:=sqr6 HRP;obtain⟨b0,hb0⟩:∃b,yB (.mk k n u s keys []) 10 0 0 EMB=b:=⟨_,rfl⟩;have HB0:=zh hb0;clear hb0;have HRS:Hid (res=(b0 && decide (md=0) && decide (at_+(l.length:Int)*wid+(l.length:Int)≤d.length) && ((yF d (at_ - wid) wid).2 && decide ((yF d (at_ - wid) wid).1=l.length)) && true && K0)):=by show _=_;rw[← zJ.out,← HB0.out];rfl
 have hnp:jM u3 (.mk k n u s keys []) (.agg #[.int .i64 k,.int .i64 n,.int .u64 u,.string s,.slice a4 keys.length c4,.slice none 0 0]):=⟨HB.out,_,_,[],rfl,HKS.grew HG.out,y9.nil _,rfl⟩;have hh:=JJ _ _ 10 0 0 ⟨#[]⟩ _ hnp;rw[show yB (.mk k n u s keys []) 10 0 0 ⟨#[]⟩=b0 from HB0.out] at hh;have HH:=zh hh;clear hh hnp;go_wp2_with fail;refine HH.mono ?_;rintro r u4 ⟨rfl,hgc⟩;clear c0 c1 c2 c3;clear e0 e1 e2 e3 e4 e5;clear p0 p1 p2 p3 p4 p5;replace HRR:=zh (hgc.heap HRR.out);replace HRT:=zh (hgc.heap HRT.out);replace HG:=zh (HG.trans hgc);clear hgc;obtain⟨c0,c1,c2,c3⟩:=sqr4 HRR;obtain⟨e0,e1,e2,e3,e4,e5⟩:=sqr6 HRT;cases b0
 ·exact zb98
 by_cases hmd0:md=0;rotate_left
 ·exact zb99
 subst hmd0;by_cases hend:at_+(l.length:Int)*wid+(l.length:Int)≤d.length;rotate_left
 ·exact zb100
 obtain⟨nn,hnn⟩:∃q,yF d (at_ - wid) wid=q:=⟨_,rfl⟩;have hnum:=Z4 d (.slice da d.length dc) (at_ - wid) wid;rw[hnn] at HRS hnum;have HNU:=zh hnum;clear hnn hnum;obtain⟨nv,ni⟩:=nn;simp only at HRS HNU;go_wp2_with fail;refine (HNU.out u4 (HD.grew HG.out) zp8).mono ?_;rintro r u5 ⟨rfl,hgc⟩;clear c0 c1 c2 c3;clear e0 e1 e2 e3 e4 e5;replace HRR:=zh (hgc.heap HRR.out);replace HRT:=zh (hgc.heap HRT.out);replace HG:=zh (HG.trans hgc);clear hgc;obtain⟨c0,c1,c2,c3⟩:=sqr4 HRR;obtain⟨e0,e1,e2,e3,e4,e5⟩:=sqr6 HRT;cases ni
 ·exact zb98
 by_cases hnv:nv=(l.length:Int);rotate_left
 ·exact zb101
 have hbx:(nv != (l.length:Int))=false:=by simpa using hnv
 have HRS2:Hid (res=K0):=by show _=_;rw[HRS];simp[hnv,hend]
 clear hnv;have hel:=Ft.elem_any typ;obtain⟨el,hel2⟩:∃e,Ft.elemF typ=e:=⟨_,rfl⟩;rw[hel2] at hel;have HEL:=zh hel;have HEQ:=zh hel2;clear hel hel2;obtain⟨el1,el2,el3⟩:=el;simp only at HEL;have HFI:Hid (JU typ wid at_=at_ - wid):=by show _=_;unfold JU;rw[HQ];rfl
 have HEO:Hid (∀i:Nat,vY d typ wid at_ l.length i=Ft.unpackF ((d[(at_+(l.length:Int)*wid+i).toNat]?).getD 0).toNat):=λi=>by unfold vY;rw[HQ];rfl
 go_wp2_with fail;refine (HEL.out _).mono ?_;rintro r u7 ⟨rfl,hgc⟩;clear c0 c1 c2 c3;clear e0 e1 e2 e3 e4 e5;replace HRR:=zh (hgc.heap HRR.out);replace HRT:=zh (hgc.heap HRT.out);replace HG:=zh (HG.trans hgc);clear hgc;obtain⟨c0,c1,c2,c3⟩:=sqr4 HRR;obtain⟨e0,e1,e2,e3,e4,e5⟩:=sqr6 HRT;have HEND:Hid (at_+(l.length:Int)*wid+(l.length:Int)≤d.length):=hend;go_upto_region 27 with fail;go_wp2_with fail;clear c0 c1 c2 c3;clear e0 e1 e2 e3 e4 e5
 go_loopw [136] (λi wr=>∃kk:Nat,kk≤l.length∧i=.int .i64 kk∧Hid (jC u7 wr∧K0=JD d typ wid at_ l.length kk (l.drop kk))) (λi _=>l.length - (intOf i).toNat)
 case atStart=>exact⟨0,Nat.zero_le _,rfl,by show _∧_;exact⟨jC.refl _,by rw[List.drop_zero];exact HK0.symm⟩⟩
 case round=>
  obtain⟨kk,hkk,rfl,HL⟩:=hrel;have HGW:=zh (HG.trans HL.1);by_cases hlt:kk < l.length;rotate_left
  ·exact D8
  obtain⟨x,hx⟩:∃x,l[kk]? = some x:=⟨_,za hlt⟩;obtain⟨xv,hxv,hnx⟩:=HKD.get hx;have hxm:x∈l:=qd hx;have HDR:Hid (l.drop kk=x::l.drop (kk+1)):=by show _=_;rw[List.drop_eq_getElem_cons hlt];congr 1;rw[za hlt] at hx;injection hx
  obtain⟨b,off,rfl,hc6⟩:∃b off,a5=some ⟨b,off,none⟩∧yO wr b (off+kk*6) xv:=by
   obtain⟨a,c,e,_,_,_,h⟩:=HRL.out;injection e with e1 e2 e3;subst e1;obtain⟨b,off,e,h6⟩:=h kk xv hxv;exact⟨b,off,e,h6.grew HGW.out⟩
  obtain⟨xk,xn,xu,xs,xa4,xn4,xc4,xa5,xn5,xc5,rfl⟩:=hnx.node6;obtain⟨f0,f1,f2,f3,f4,f5⟩:=hc6.get;have HNX:=zh (hnx.grew HGW.out);have hlti:(kk:Int) < l.length:=by omega
  have hkw:0≤(kk:Int)*wid∧(kk:Int)*wid≤32768:=by
   refine⟨Int.mul_nonneg zo zo,?_⟩;have h1:=Int.mul_le_mul (show (kk:Int)≤4096 by omega) hw1.2 zo zo;omega
  have hwk:IntKind.i64.wrap ((kk:Int)*wid)=(kk:Int)*wid:=by rw[zy];omega
  have hwk2:IntKind.i64.wrap (at_+(kk:Int)*wid)=at_+(kk:Int)*wid:=by rw[zy];omega
  have HSX:=zh (HHK.out x hxm);clear hc6 hx hxv hnx hxm;have hix:(at_+(l.length:Int)*wid+(kk:Int)).toNat < d.length:=by have:=HEND.out;omega
  have hwx:IntKind.i64.wrap (at_+(l.length:Int)*wid+(kk:Int))=at_+(l.length:Int)*wid+(kk:Int):=by rw[zy];omega
  have hend2:at_+(l.length:Int)*wid+(kk:Int) < d.length:=by have:=HEND.out;omega
  have hpos2:0≤at_+(l.length:Int)*wid+(kk:Int):=by omega
  obtain⟨by_,hby⟩:∃b,d[(at_+(l.length:Int)*wid+(kk:Int)).toNat]? = some b:=⟨_,za hix⟩
  obtain⟨bl,bo,rfl,hcb⟩:∃bl bo,da=some ⟨bl,bo,none⟩∧w.cell? ⟨bl,bo+(at_+(l.length:Int)*wid+(kk:Int)).toNat,none⟩=some (.int .u8 by_.toNat):=by
   obtain⟨⟨a,c,e,_,_,h⟩,_⟩:=HD.out;cases e;obtain⟨bl,bo,e,hc⟩:=h _ by_ hby;exact⟨bl,bo,e,hc⟩
  have hun:=Ft.unpack_any by_.toNat;obtain⟨un,hun2⟩:∃q,Ft.unpackF by_.toNat=q:=⟨_,rfl⟩;rw[hun2] at hun;have HUN:=zh hun;have HEK:Hid (vY d typ wid at_ l.length kk=un):=by show _=_;rw[HEO,hby];exact hun2
  clear hun hun2 hby;obtain⟨own,wide,ue⟩:=un;simp only at HUN;go_upto_region 31 with fail;obtain⟨px,hpx⟩:∃N,wr.heap.size=N:=⟨_,rfl⟩;obtain⟨hrx,hgx⟩:=sqal wr (.cells #[.int .i64 xk,.int .i64 xn,.int .u64 xu,.string xs,.slice xa4 xn4 xc4,.slice xa5 xn5 xc5] 26);have hzx:(wr.alloc (.cells #[.int .i64 xk,.int .i64 xn,.int .u64 xu,.string xs,.slice xa4 xn4 xc4,.slice xa5 xn5 xc5] 26)).heap.size=px+1:=by rw[zm,hpx]
  generalize wr.alloc _=y1 at *;rw[hpx] at hrx⊢;obtain⟨hry,hgy⟩:=sqal y1 (.cells #[.int .i64 (at_+(kk:Int)*wid),.int .i64 wid,.int .i64 el1,.int .i64 wid] 88);generalize y1.alloc _=y2 at *;rw[hzx] at hry
  try rw[hzx]
  have HRX:=zh (hgy.heap hrx);have HRY:=zh hry;have HGY:=zh (hgx.trans hgy);have HPX:=zh hpx;have hcb2:=(HGW.trans HGY.out).cell hcb;clear hrx hry hgx hgy hzx hpx f0 f1 f2 f3 f4 f5;go_wp2_with fail;refine (HUN.out y2 (by exact UInt8.toNat_lt _)).mono ?_;rintro r y3 ⟨rfl,hg4⟩;have HG4:=zh (HGY.trans hg4);have HRX3:=zh (hg4.heap HRX.out);have HRY3:=zh (hg4.heap HRY.out);clear hg4 hcb2;by_cases hue:ue=0;rotate_left
  ·exact zb103
  subst hue;have fy2:=jE HRY3.out 2;have fy3:=jE HRY3.out 3;have cy2:=jA HRY3.out 2 _ rfl;have cy3:=jA HRY3.out 3 _ rfl;go_upto_region 36 with fail;have hry4:=heap_setCell_same _ (px+1) 3 _ _ (.int .i64 wide) (heap_setCell_same y3 (px+1) 2 _ _ (.int .i64 own) HRY3.out);have hmy:Moved (λg=>g=px+1) y3 ((y3.setCell ⟨px+1,2,none⟩ (.int .i64 own)).setCell ⟨px+1,3,none⟩ (.int .i64 wide)):=Moved.setCell (S:=λg=>g=px+1) (p:=⟨px+1,3,none⟩) (Moved.setCell (S:=λg=>g=px+1) (p:=⟨px+1,2,none⟩) (Moved.refl _ y3) (λ_=>rfl) _) (λ_=>rfl) _;have hg5:jC wr ((y3.setCell ⟨px+1,2,none⟩ (.int .i64 own)).setCell ⟨px+1,3,none⟩ (.int .i64 wide)):=Moved.fresh HG4.out hmy (λg e=>by have:=HPX.out;omega);have hrx4:=hmy.heap HRX3.out zo;generalize ((y3.setCell ⟨px+1,2,none⟩ (.int .i64 own)).setCell ⟨px+1,3,none⟩ (.int .i64 wide))=y4 at *;have HG5:=zh hg5;clear hmy hg5 fy2 fy3 cy2 cy3;obtain⟨g0,g1,g2,g3⟩:=sqr4 hry4;obtain⟨f0,f1,f2,f3,f4,f5⟩:=sqr6 hrx4;clear hry4 hrx4;have hsay:=HSX.out own (.inl (by rw[HQ])) (.slice (some ⟨bl,bo,none⟩) d.length dc) (at_+(kk:Int)*wid) wid wide (at_ - wid) _ y4 (HD.grew (HGW.trans HG5.out)) (HNX.grew HG5.out) zp8;obtain⟨sB,hsB⟩:∃b,JY d own (at_+(kk:Int)*wid) wid wide (at_ - wid) x=b:=⟨_,rfl⟩;rw[hsB] at hsay;have HKX:Hid (K0=(sB && JD d typ wid at_ l.length (kk+1) (l.drop (kk+1)))):=by show _=_;rw[HL.2,HDR,JD,HEK];simp only;rw[HFI,hsB];rfl
  have HSAY:=zh hsay;clear hsay hsB;go_wp2_with fail;refine HSAY.mono ?_;rintro r y5 ⟨rfl,hg6⟩;have HG6:=zh (HG5.trans hg6);clear hg6 g0 g1 g2 g3 f0 f1 f2 f3 f4 f5;cases sB
  ·exact D9
  go_wp2_with fail;go_roundw
  case rel=>exact⟨kk+1,by omega,by go_num,by
   show _∧_
   exact⟨HL.1.trans HG6.out,by rw[HKX];rfl⟩⟩
  case measure=>simp[intOf];omega
theorem C2 (d:List UInt8) (typ k n u:Int) (s:ByteArray) (keys:List ByteArray) (l:List Tr) (hl:l.length≤4096) (hkl4:keys.length≤4096) (zN:∀x∈l,∀typ',((kA typ).1=10∨(kA typ).1=17∨typ'=(Ft.elemF typ).1)→gI d typ' x) (vC:(kA typ).1=17→dG d keys) (hcase:(¬(kA typ).1=17∧¬(kA typ).1=10)∧(kA typ).2=0):VU d typ (.mk k n u s keys l):=by
 intro dv pos par wid at_ tv w hD hn ha hw;simp only[jM] at hn;obtain⟨hb,kv,lv,vs,rfl,hks,hrl,hkd⟩:=hn;have hkl:=hkd.length;have HD:=zh hD;have HKS:=zh hks;have HB:=zh hb;have hdl:=hD.2.1;obtain⟨da,dc,rfl,hdc⟩:=hD.form;obtain⟨a4,c4,rfl,hk1,hk2,hk3⟩:=hks;have HRL:=zh hrl;obtain⟨a5,c5,rfl,hl1,hl2,hl3,hl4⟩:=hrl;rw[hkl] at HRL hl1⊢;have HKD:=zh hkd;have HHK:=zh zN;have HKY:=zh vC;have HW:=zh hw;have hlc:(l.length:Int)≤c5:=by omega
 clear hD hb hk1 hk2 hk3 hl2 hl3 hl4 hkd hkl zN vC hl1;have hw1:1≤wid∧wid≤8:=by rcases yL hw with rfl | rfl | rfl | rfl<;>omega
 have hnw:0≤(l.length:Int)*wid∧(l.length:Int)*wid≤32768:=by
  refine⟨Int.mul_nonneg zo zo,?_⟩;have h1:=Int.mul_le_mul (show (l.length:Int)≤4096 by omega) hw1.2 zo zo;omega
 have HSR:=zh (QI typ);obtain⟨q,hq⟩:∃q,kA typ=q:=⟨_,rfl⟩;rw[hq] at HSR;have hshp:=bJ typ;rw[hq] at hshp;have HSP:=zh hshp;clear hshp;obtain⟨kd,many⟩:=q;simp only at HSR HSP;obtain⟨res,j7⟩:∃b,JK d typ wid at_ (.mk k n u s keys l)=b:=⟨_,rfl⟩;rw[j7];have zJ:=zh j7;clear j7;rw[Q8 hq] at zJ;obtain⟨⟨h17,h10⟩,hm⟩:(¬kd=17∧¬kd=10)∧many=0:=by rw[hq] at hcase;exact hcase
 clear hcase;have HQ:=zh hq;clear hq;have HG:=zh (jC.refl w);go_enter func172,ntmps172;go_upto_region 1 with fail;obtain⟨pr,hpr⟩:∃N,w.heap.size=N:=⟨_,rfl⟩;have HPR:=zh hpr;obtain⟨hr1,hga⟩:=sqal w (.cells #[.int .i64 pos,.int .i64 par,.int .i64 typ,.int .i64 wid] 88);have hz1:(w.alloc (.cells #[.int .i64 pos,.int .i64 par,.int .i64 typ,.int .i64 wid] 88)).heap.size=pr+1:=by rw[zm,hpr]
 generalize w.alloc _=x1 at *;rw[hpr] at hr1⊢;obtain⟨hr2,hgb⟩:=sqal x1 (.cells #[.int .i64 k,.int .i64 n,.int .u64 u,.string s,.slice a4 keys.length c4,.slice a5 l.length c5] 26);generalize x1.alloc _=x2 at *;rw[hz1] at hr2
 try rw[hz1]
 have HRR:=zh (hgb.heap hr1);have HRT:=zh hr2;replace HG:=zh (hga.trans hgb);clear hr1 hr2 hz1 hpr hga hgb;obtain⟨c0,c1,c2,c3⟩:=sqr4 HRR;obtain⟨e0,e1,e2,e3,e4,e5⟩:=sqr6 HRT;go_quiet (fail);have hgc:=(jC.refl x2).drewN nq;obtain⟨x3,hx3⟩:∃x3,x2.drewN nq=x3:=⟨_,rfl⟩;rw[hx3] at hgc⊢;clear hx3;clear c0 c1 c2 c3;clear e0 e1 e2 e3 e4 e5;replace HRR:=zh (hgc.heap HRR.out);replace HRT:=zh (hgc.heap HRT.out);replace HG:=zh (HG.trans hgc);clear hgc;obtain⟨c0,c1,c2,c3⟩:=sqr4 HRR;obtain⟨e0,e1,e2,e3,e4,e5⟩:=sqr6 HRT;go_wp2_with fail;refine (HSP.out x3).mono ?_;rintro r u1 ⟨rfl,hgc⟩;clear c0 c1 c2 c3;clear e0 e1 e2 e3 e4 e5;replace HRR:=zh (hgc.heap HRR.out);replace HRT:=zh (hgc.heap HRT.out);replace HG:=zh (HG.trans hgc);clear hgc;obtain⟨c0,c1,c2,c3⟩:=sqr4 HRR;obtain⟨e0,e1,e2,e3,e4,e5⟩:=sqr6 HRT;have hws:IntKind.i64.wrap ((l.length:Int)*wid)=(l.length:Int)*wid:=by rw[zy];omega
 have hwe:IntKind.i64.wrap (at_+(l.length:Int)*wid)=at_+(l.length:Int)*wid:=by rw[zy];omega
 have hwt:IntKind.i64.wrap (at_+(l.length:Int)*wid+l.length)=at_+(l.length:Int)*wid+l.length:=by rw[zy];omega
 have hwf:IntKind.i64.wrap (at_ - wid)=at_ - wid:=by rw[zy];omega
 have hw3:IntKind.i64.wrap (3*wid)=3*wid:=by rw[zy];omega
 have hwm3:IntKind.i64.wrap (at_ - 3*wid)=at_ - 3*wid:=by rw[zy];omega
 have ht:Int.tmod at_ wid=at_ % wid:=Int.tmod_eq_emod_of_nonneg ha.1;have hwz:(wid == 0)=false:=by rw[beq_eq_false_iff_ne];omega
 have hm0:0≤at_ % wid∧at_ % wid < 8:=⟨xg _ zo,Int.lt_of_lt_of_le (xd _ zo) hw1.2⟩;have hwm:IntKind.i64.wrap (at_ % wid)=at_ % wid:=by rw[zy];omega
 obtain⟨md,hmd⟩:∃q,at_ % wid=q:=⟨_,rfl⟩;rw[hmd] at ht hwm hm0 zJ;clear hmd;obtain⟨K0,hK0⟩:∃b,JD d typ wid at_ l.length 0 l=b:=⟨_,rfl⟩;rw[hK0] at zJ;have HK0:=zh hK0;clear hK0;subst hm;have hb17:(kd == 17)=false:=by simpa using h17
 have hb10:(kd == 10)=false:=by simpa using h10
 have HN:=zh (qa h17 h10);clear h17 h10;have htg:vK kd=false:=by unfold vK;rw[decide_eq_false HN.1,decide_eq_false HN.2];rfl
 have HTG:=zh htg;clear htg;go_upto_region 8 with fail;obtain⟨hrp,hgc⟩:=sqal u1 (.cells #[.int .i64 k,.int .i64 n,.int .u64 u,.string s,.slice a4 keys.length c4,.slice none 0 0] 26);obtain⟨pp,hpp⟩:∃N,u1.heap.size=N:=⟨_,rfl⟩;generalize u1.alloc _=u3 at *;rw[hpp] at hrp⊢;have HRP:=zh hrp;clear hrp hpp;clear c0 c1 c2 c3;clear e0 e1 e2 e3 e4 e5;replace HRR:=zh (hgc.heap HRR.out);replace HRT:=zh (hgc.heap HRT.out);replace HG:=zh (HG.trans hgc);clear hgc;obtain⟨c0,c1,c2,c3⟩:=sqr4 HRR;obtain⟨e0,e1,e2,e3,e4,e5⟩:=sqr6 HRT;obtain⟨p0,p1,p2,p3,p4,p5⟩:=sqr6 HRP;obtain⟨b0,hb0⟩:∃b,yB (.mk k n u s keys []) kd 0 0 EMB=b:=⟨_,rfl⟩;have HB0:=zh hb0;clear hb0;have HRS:Hid (res=(b0 && decide (md=0) && decide (at_+(l.length:Int)*wid+0≤d.length) && ((yF d (at_ - wid) wid).2 && decide ((yF d (at_ - wid) wid).1=l.length)) && true && K0)):=by show _=_;rw[← zJ.out,← HB0.out,ze HN.1,ze HN.1,HTG];rfl
 have hnp:jM u3 (.mk k n u s keys []) (.agg #[.int .i64 k,.int .i64 n,.int .u64 u,.string s,.slice a4 keys.length c4,.slice none 0 0]):=⟨HB.out,_,_,[],rfl,HKS.grew HG.out,y9.nil _,rfl⟩;have hh:=JJ _ _ kd 0 0 ⟨#[]⟩ _ hnp;rw[show yB (.mk k n u s keys []) kd 0 0 ⟨#[]⟩=b0 from HB0.out] at hh;have HH:=zh hh;clear hh hnp;go_wp2_with fail;refine HH.mono ?_;rintro r u4 ⟨rfl,hgc⟩;clear c0 c1 c2 c3;clear e0 e1 e2 e3 e4 e5;clear p0 p1 p2 p3 p4 p5;replace HRR:=zh (hgc.heap HRR.out);replace HRT:=zh (hgc.heap HRT.out);replace HG:=zh (HG.trans hgc);clear hgc;obtain⟨c0,c1,c2,c3⟩:=sqr4 HRR;obtain⟨e0,e1,e2,e3,e4,e5⟩:=sqr6 HRT;cases b0
 ·exact zb98
 by_cases hmd0:md=0;rotate_left
 ·exact zb99
 subst hmd0;by_cases hend:at_+(l.length:Int)*wid≤d.length;rotate_left
 ·exact zb105
 obtain⟨nn,hnn⟩:∃q,yF d (at_ - wid) wid=q:=⟨_,rfl⟩;have hnum:=Z4 d (.slice da d.length dc) (at_ - wid) wid;rw[hnn] at HRS hnum;have HNU:=zh hnum;clear hnn hnum;obtain⟨nv,ni⟩:=nn;simp only at HRS HNU;go_wp2_with fail;refine (HNU.out u4 (HD.grew HG.out) zp8).mono ?_;rintro r u5 ⟨rfl,hgc⟩;clear c0 c1 c2 c3;clear e0 e1 e2 e3 e4 e5;replace HRR:=zh (hgc.heap HRR.out);replace HRT:=zh (hgc.heap HRT.out);replace HG:=zh (HG.trans hgc);clear hgc;obtain⟨c0,c1,c2,c3⟩:=sqr4 HRR;obtain⟨e0,e1,e2,e3,e4,e5⟩:=sqr6 HRT;cases ni
 ·exact zb98
 by_cases hnv:nv=(l.length:Int);rotate_left
 ·exact zb101
 have hbx:(nv != (l.length:Int))=false:=by simpa using hnv
 have HRS2:Hid (res=K0):=by show _=_;rw[HRS];simp[hnv,hend]
 clear hnv;have hel:=Ft.elem_any typ;obtain⟨el,hel2⟩:∃e,Ft.elemF typ=e:=⟨_,rfl⟩;rw[hel2] at hel;have HEL:=zh hel;have HEQ:=zh hel2;clear hel hel2;obtain⟨el1,el2,el3⟩:=el;simp only at HEL;have HFI:Hid (JU typ wid at_=at_ - wid):=by show _=_;unfold JU;rw[HQ];simp only;rw[ze HN.1];rfl
 have HEO:Hid (∀i:Nat,vY d typ wid at_ l.length i=(el1,wid,0)):=λi=>by unfold vY;rw[HQ,HEQ];simp only;rw[HTG];rfl
 go_wp2_with fail;refine (HEL.out _).mono ?_;rintro r u7 ⟨rfl,hgc⟩;clear c0 c1 c2 c3;clear e0 e1 e2 e3 e4 e5;replace HRR:=zh (hgc.heap HRR.out);replace HRT:=zh (hgc.heap HRT.out);replace HG:=zh (HG.trans hgc);clear hgc;obtain⟨c0,c1,c2,c3⟩:=sqr4 HRR;obtain⟨e0,e1,e2,e3,e4,e5⟩:=sqr6 HRT;have HEND:Hid (at_+(l.length:Int)*wid≤d.length):=hend;go_upto_region 27 with fail;go_wp2_with fail;clear c0 c1 c2 c3;clear e0 e1 e2 e3 e4 e5
 go_loopw [136] (λi wr=>∃kk:Nat,kk≤l.length∧i=.int .i64 kk∧Hid (jC u7 wr∧K0=JD d typ wid at_ l.length kk (l.drop kk))) (λi _=>l.length - (intOf i).toNat)
 case atStart=>exact⟨0,Nat.zero_le _,rfl,by show _∧_;exact⟨jC.refl _,by rw[List.drop_zero];exact HK0.symm⟩⟩
 case round=>
  obtain⟨kk,hkk,rfl,HL⟩:=hrel;have HGW:=zh (HG.trans HL.1);by_cases hlt:kk < l.length;rotate_left
  ·exact D8
  obtain⟨x,hx⟩:∃x,l[kk]? = some x:=⟨_,za hlt⟩;obtain⟨xv,hxv,hnx⟩:=HKD.get hx;have hxm:x∈l:=qd hx;have HDR:Hid (l.drop kk=x::l.drop (kk+1)):=by show _=_;rw[List.drop_eq_getElem_cons hlt];congr 1;rw[za hlt] at hx;injection hx
  obtain⟨b,off,rfl,hc6⟩:∃b off,a5=some ⟨b,off,none⟩∧yO wr b (off+kk*6) xv:=by
   obtain⟨a,c,e,_,_,_,h⟩:=HRL.out;injection e with e1 e2 e3;subst e1;obtain⟨b,off,e,h6⟩:=h kk xv hxv;exact⟨b,off,e,h6.grew HGW.out⟩
  obtain⟨xk,xn,xu,xs,xa4,xn4,xc4,xa5,xn5,xc5,rfl⟩:=hnx.node6;obtain⟨f0,f1,f2,f3,f4,f5⟩:=hc6.get;have HNX:=zh (hnx.grew HGW.out);have hlti:(kk:Int) < l.length:=by omega
  have hkw:0≤(kk:Int)*wid∧(kk:Int)*wid≤32768:=by
   refine⟨Int.mul_nonneg zo zo,?_⟩;have h1:=Int.mul_le_mul (show (kk:Int)≤4096 by omega) hw1.2 zo zo;omega
  have hwk:IntKind.i64.wrap ((kk:Int)*wid)=(kk:Int)*wid:=by rw[zy];omega
  have hwk2:IntKind.i64.wrap (at_+(kk:Int)*wid)=at_+(kk:Int)*wid:=by rw[zy];omega
  have HSX:=zh (HHK.out x hxm);clear hc6 hx hxv hnx hxm;have hga:=((jC.refl wr).alloc (.cells #[.int .i64 xk,.int .i64 xn,.int .u64 xu,.string xs,.slice xa4 xn4 xc4,.slice xa5 xn5 xc5] 26)).alloc (.cells #[.int .i64 (at_+(kk:Int)*wid),.int .i64 wid,.int .i64 el1,.int .i64 wid] 88);have hsay:=HSX.out el1 (.inr (.inr (by rw[HEQ]))) (.slice da d.length dc) (at_+(kk:Int)*wid) wid wid (at_ - wid) _ _ (HD.grew (HGW.trans hga)) (HNX.grew hga) zp8;obtain⟨sB,hsB⟩:∃b,JY d el1 (at_+(kk:Int)*wid) wid wid (at_ - wid) x=b:=⟨_,rfl⟩;rw[hsB] at hsay;have HKX:Hid (K0=(sB && JD d typ wid at_ l.length (kk+1) (l.drop (kk+1)))):=by show _=_;rw[HL.2,HDR,JD,HEO];simp only;rw[HFI,hsB];rfl
  have HSAY:=zh hsay;have HGA:=zh hga;clear hsay hsB hga;go_wp2_with fail;refine HSAY.mono ?_;rintro r y5 ⟨rfl,hg6⟩;have HG6:=zh (HGA.trans hg6);clear hg6 f0 f1 f2 f3 f4 f5;cases sB
  ·exact D9
  go_wp2_with fail;go_roundw
  case rel=>exact⟨kk+1,by omega,by go_num,by
   show _∧_
   exact⟨HL.1.trans HG6.out,by rw[HKX];rfl⟩⟩
  case measure=>simp[intOf];omega
theorem C3 (d:List UInt8) (typ k n u:Int) (s:ByteArray) (keys:List ByteArray) (l:List Tr) (hl:l.length≤4096) (hkl4:keys.length≤4096) (zN:∀x∈l,∀typ',((kA typ).1=10∨(kA typ).1=17∨typ'=(Ft.elemF typ).1)→gI d typ' x) (vC:(kA typ).1=17→dG d keys) (hcase:(¬(kA typ).1=17∧¬(kA typ).1=10)∧¬(kA typ).2=0):VU d typ (.mk k n u s keys l):=by
 intro dv pos par wid at_ tv w hD hn ha hw;simp only[jM] at hn;obtain⟨hb,kv,lv,vs,rfl,hks,hrl,hkd⟩:=hn;have hkl:=hkd.length;have HD:=zh hD;have HKS:=zh hks;have HB:=zh hb;have hdl:=hD.2.1;obtain⟨da,dc,rfl,hdc⟩:=hD.form;obtain⟨a4,c4,rfl,hk1,hk2,hk3⟩:=hks;have HRL:=zh hrl;obtain⟨a5,c5,rfl,hl1,hl2,hl3,hl4⟩:=hrl;rw[hkl] at HRL hl1⊢;have HKD:=zh hkd;have HHK:=zh zN;have HKY:=zh vC;have HW:=zh hw;have hlc:(l.length:Int)≤c5:=by omega
 clear hD hb hk1 hk2 hk3 hl2 hl3 hl4 hkd hkl zN vC hl1;have hw1:1≤wid∧wid≤8:=by rcases yL hw with rfl | rfl | rfl | rfl<;>omega
 have hnw:0≤(l.length:Int)*wid∧(l.length:Int)*wid≤32768:=by
  refine⟨Int.mul_nonneg zo zo,?_⟩;have h1:=Int.mul_le_mul (show (l.length:Int)≤4096 by omega) hw1.2 zo zo;omega
 have HSR:=zh (QI typ);obtain⟨q,hq⟩:∃q,kA typ=q:=⟨_,rfl⟩;rw[hq] at HSR;have hshp:=bJ typ;rw[hq] at hshp;have HSP:=zh hshp;clear hshp;obtain⟨kd,many⟩:=q;simp only at HSR HSP;obtain⟨res,j7⟩:∃b,JK d typ wid at_ (.mk k n u s keys l)=b:=⟨_,rfl⟩;rw[j7];have zJ:=zh j7;clear j7;rw[Q8 hq] at zJ;obtain⟨⟨h17,h10⟩,hm⟩:(¬kd=17∧¬kd=10)∧¬many=0:=by rw[hq] at hcase;exact hcase
 clear hcase;have HQ:=zh hq;clear hq;have HG:=zh (jC.refl w);go_enter func172,ntmps172;go_upto_region 1 with fail;obtain⟨pr,hpr⟩:∃N,w.heap.size=N:=⟨_,rfl⟩;have HPR:=zh hpr;obtain⟨hr1,hga⟩:=sqal w (.cells #[.int .i64 pos,.int .i64 par,.int .i64 typ,.int .i64 wid] 88);have hz1:(w.alloc (.cells #[.int .i64 pos,.int .i64 par,.int .i64 typ,.int .i64 wid] 88)).heap.size=pr+1:=by rw[zm,hpr]
 generalize w.alloc _=x1 at *;rw[hpr] at hr1⊢;obtain⟨hr2,hgb⟩:=sqal x1 (.cells #[.int .i64 k,.int .i64 n,.int .u64 u,.string s,.slice a4 keys.length c4,.slice a5 l.length c5] 26);generalize x1.alloc _=x2 at *;rw[hz1] at hr2
 try rw[hz1]
 have HRR:=zh (hgb.heap hr1);have HRT:=zh hr2;replace HG:=zh (hga.trans hgb);clear hr1 hr2 hz1 hpr hga hgb;obtain⟨c0,c1,c2,c3⟩:=sqr4 HRR;obtain⟨e0,e1,e2,e3,e4,e5⟩:=sqr6 HRT;go_quiet (fail);have hgc:=(jC.refl x2).drewN nq;obtain⟨x3,hx3⟩:∃x3,x2.drewN nq=x3:=⟨_,rfl⟩;rw[hx3] at hgc⊢;clear hx3;clear c0 c1 c2 c3;clear e0 e1 e2 e3 e4 e5;replace HRR:=zh (hgc.heap HRR.out);replace HRT:=zh (hgc.heap HRT.out);replace HG:=zh (HG.trans hgc);clear hgc;obtain⟨c0,c1,c2,c3⟩:=sqr4 HRR;obtain⟨e0,e1,e2,e3,e4,e5⟩:=sqr6 HRT;go_wp2_with fail;refine (HSP.out x3).mono ?_;rintro r u1 ⟨rfl,hgc⟩;clear c0 c1 c2 c3;clear e0 e1 e2 e3 e4 e5;replace HRR:=zh (hgc.heap HRR.out);replace HRT:=zh (hgc.heap HRT.out);replace HG:=zh (HG.trans hgc);clear hgc;obtain⟨c0,c1,c2,c3⟩:=sqr4 HRR;obtain⟨e0,e1,e2,e3,e4,e5⟩:=sqr6 HRT;have hws:IntKind.i64.wrap ((l.length:Int)*wid)=(l.length:Int)*wid:=by rw[zy];omega
 have hwe:IntKind.i64.wrap (at_+(l.length:Int)*wid)=at_+(l.length:Int)*wid:=by rw[zy];omega
 have hwt:IntKind.i64.wrap (at_+(l.length:Int)*wid+l.length)=at_+(l.length:Int)*wid+l.length:=by rw[zy];omega
 have hwf:IntKind.i64.wrap (at_ - wid)=at_ - wid:=by rw[zy];omega
 have hw3:IntKind.i64.wrap (3*wid)=3*wid:=by rw[zy];omega
 have hwm3:IntKind.i64.wrap (at_ - 3*wid)=at_ - 3*wid:=by rw[zy];omega
 have ht:Int.tmod at_ wid=at_ % wid:=Int.tmod_eq_emod_of_nonneg ha.1;have hwz:(wid == 0)=false:=by rw[beq_eq_false_iff_ne];omega
 have hm0:0≤at_ % wid∧at_ % wid < 8:=⟨xg _ zo,Int.lt_of_lt_of_le (xd _ zo) hw1.2⟩;have hwm:IntKind.i64.wrap (at_ % wid)=at_ % wid:=by rw[zy];omega
 obtain⟨md,hmd⟩:∃q,at_ % wid=q:=⟨_,rfl⟩;rw[hmd] at ht hwm hm0 zJ;clear hmd;obtain⟨K0,hK0⟩:∃b,JD d typ wid at_ l.length 0 l=b:=⟨_,rfl⟩;rw[hK0] at zJ;have HK0:=zh hK0;clear hK0;have hb17:(kd == 17)=false:=by simpa using h17
 have hb10:(kd == 10)=false:=by simpa using h10
 have HN:=zh (qa h17 h10);have hmp:0 < many:=by have:=HSR.out;omega
 have hbm:(many == 0)=false:=by simpa using hm
 have hmle:many≤4:=by have:=HSR.out;omega
 have HMN:=zh hm;clear h17 h10 hm;have htg:vK kd=false:=by unfold vK;rw[decide_eq_false HN.1,decide_eq_false HN.2];rfl
 have HTG:=zh htg;clear htg;go_upto_region 8 with fail;obtain⟨hrp,hgc⟩:=sqal u1 (.cells #[.int .i64 k,.int .i64 n,.int .u64 u,.string s,.slice a4 keys.length c4,.slice none 0 0] 26);obtain⟨pp,hpp⟩:∃N,u1.heap.size=N:=⟨_,rfl⟩;generalize u1.alloc _=u3 at *;rw[hpp] at hrp⊢;have HRP:=zh hrp;clear hrp hpp;clear c0 c1 c2 c3;clear e0 e1 e2 e3 e4 e5;replace HRR:=zh (hgc.heap HRR.out);replace HRT:=zh (hgc.heap HRT.out);replace HG:=zh (HG.trans hgc);clear hgc;obtain⟨c0,c1,c2,c3⟩:=sqr4 HRR;obtain⟨e0,e1,e2,e3,e4,e5⟩:=sqr6 HRT;obtain⟨p0,p1,p2,p3,p4,p5⟩:=sqr6 HRP;obtain⟨b0,hb0⟩:∃b,yB (.mk k n u s keys []) kd 0 0 EMB=b:=⟨_,rfl⟩;have HB0:=zh hb0;clear hb0;have HRS:Hid (res=(b0 && decide (md=0) && decide (at_+(l.length:Int)*wid+0≤d.length) && decide ((l.length:Int)=many) && true && K0)):=by show _=_;rw[← zJ.out,← HB0.out,ze HN.1,ze HN.1,HTG,ze HMN.out];rfl
 have hnp:jM u3 (.mk k n u s keys []) (.agg #[.int .i64 k,.int .i64 n,.int .u64 u,.string s,.slice a4 keys.length c4,.slice none 0 0]):=⟨HB.out,_,_,[],rfl,HKS.grew HG.out,y9.nil _,rfl⟩;have hh:=JJ _ _ kd 0 0 ⟨#[]⟩ _ hnp;rw[show yB (.mk k n u s keys []) kd 0 0 ⟨#[]⟩=b0 from HB0.out] at hh;have HH:=zh hh;clear hh hnp;go_wp2_with fail;refine HH.mono ?_;rintro r u4 ⟨rfl,hgc⟩;clear c0 c1 c2 c3;clear e0 e1 e2 e3 e4 e5;clear p0 p1 p2 p3 p4 p5;replace HRR:=zh (hgc.heap HRR.out);replace HRT:=zh (hgc.heap HRT.out);replace HG:=zh (HG.trans hgc);clear hgc;obtain⟨c0,c1,c2,c3⟩:=sqr4 HRR;obtain⟨e0,e1,e2,e3,e4,e5⟩:=sqr6 HRT;cases b0
 ·exact zb98
 by_cases hmd0:md=0;rotate_left
 ·exact zb99
 subst hmd0;by_cases hend:at_+(l.length:Int)*wid≤d.length;rotate_left
 ·exact zb105
 by_cases hnm:(l.length:Int)=many;rotate_left
 ·have hbx:((l.length:Int) != many)=true:=by simpa using hnm
  have HV:Hid (res=false):=by show _=_;rw[HRS];simp[hnm]
  go_wp2;go_ret;exact⟨by rw[HV];rfl,HG.out⟩
 have hbx:((l.length:Int) != many)=false:=by simpa using hnm
 have HRS2:Hid (res=K0):=by show _=_;rw[HRS,qt hnm];simp[hend]
 clear hnm;have hel:=Ft.elem_any typ;obtain⟨el,hel2⟩:∃e,Ft.elemF typ=e:=⟨_,rfl⟩;rw[hel2] at hel;have HEL:=zh hel;have HEQ:=zh hel2;clear hel hel2;obtain⟨el1,el2,el3⟩:=el;simp only at HEL;have HFI:Hid (JU typ wid at_=at_):=by show _=_;unfold JU;rw[HQ];simp only;rw[ze HN.1,ze HMN.out]
 have HEO:Hid (∀i:Nat,vY d typ wid at_ l.length i=(el1,wid,0)):=λi=>by unfold vY;rw[HQ,HEQ];simp only;rw[HTG];rfl
 go_wp2_with fail;refine (HEL.out _).mono ?_;rintro r u7 ⟨rfl,hgc⟩;clear c0 c1 c2 c3;clear e0 e1 e2 e3 e4 e5;replace HRR:=zh (hgc.heap HRR.out);replace HRT:=zh (hgc.heap HRT.out);replace HG:=zh (HG.trans hgc);clear hgc;obtain⟨c0,c1,c2,c3⟩:=sqr4 HRR;obtain⟨e0,e1,e2,e3,e4,e5⟩:=sqr6 HRT;have HEND:Hid (at_+(l.length:Int)*wid≤d.length):=hend;go_upto_region 27 with fail;go_wp2_with fail;clear c0 c1 c2 c3;clear e0 e1 e2 e3 e4 e5
 go_loopw [136] (λi wr=>∃kk:Nat,kk≤l.length∧i=.int .i64 kk∧Hid (jC u7 wr∧K0=JD d typ wid at_ l.length kk (l.drop kk))) (λi _=>l.length - (intOf i).toNat)
 case atStart=>exact⟨0,Nat.zero_le _,rfl,by show _∧_;exact⟨jC.refl _,by rw[List.drop_zero];exact HK0.symm⟩⟩
 case round=>
  obtain⟨kk,hkk,rfl,HL⟩:=hrel;have HGW:=zh (HG.trans HL.1);by_cases hlt:kk < l.length;rotate_left
  ·exact D8
  obtain⟨x,hx⟩:∃x,l[kk]? = some x:=⟨_,za hlt⟩;obtain⟨xv,hxv,hnx⟩:=HKD.get hx;have hxm:x∈l:=qd hx;have HDR:Hid (l.drop kk=x::l.drop (kk+1)):=by show _=_;rw[List.drop_eq_getElem_cons hlt];congr 1;rw[za hlt] at hx;injection hx
  obtain⟨b,off,rfl,hc6⟩:∃b off,a5=some ⟨b,off,none⟩∧yO wr b (off+kk*6) xv:=by
   obtain⟨a,c,e,_,_,_,h⟩:=HRL.out;injection e with e1 e2 e3;subst e1;obtain⟨b,off,e,h6⟩:=h kk xv hxv;exact⟨b,off,e,h6.grew HGW.out⟩
  obtain⟨xk,xn,xu,xs,xa4,xn4,xc4,xa5,xn5,xc5,rfl⟩:=hnx.node6;obtain⟨f0,f1,f2,f3,f4,f5⟩:=hc6.get;have HNX:=zh (hnx.grew HGW.out);have hlti:(kk:Int) < l.length:=by omega
  have hkw:0≤(kk:Int)*wid∧(kk:Int)*wid≤32768:=by
   refine⟨Int.mul_nonneg zo zo,?_⟩;have h1:=Int.mul_le_mul (show (kk:Int)≤4096 by omega) hw1.2 zo zo;omega
  have hwk:IntKind.i64.wrap ((kk:Int)*wid)=(kk:Int)*wid:=by rw[zy];omega
  have hwk2:IntKind.i64.wrap (at_+(kk:Int)*wid)=at_+(kk:Int)*wid:=by rw[zy];omega
  have HSX:=zh (HHK.out x hxm);clear hc6 hx hxv hnx hxm;have hga:=((jC.refl wr).alloc (.cells #[.int .i64 xk,.int .i64 xn,.int .u64 xu,.string xs,.slice xa4 xn4 xc4,.slice xa5 xn5 xc5] 26)).alloc (.cells #[.int .i64 (at_+(kk:Int)*wid),.int .i64 wid,.int .i64 el1,.int .i64 wid] 88);have hsay:=HSX.out el1 (.inr (.inr (by rw[HEQ]))) (.slice da d.length dc) (at_+(kk:Int)*wid) wid wid (at_) _ _ (HD.grew (HGW.trans hga)) (HNX.grew hga) zp8;obtain⟨sB,hsB⟩:∃b,JY d el1 (at_+(kk:Int)*wid) wid wid (at_) x=b:=⟨_,rfl⟩;rw[hsB] at hsay;have HKX:Hid (K0=(sB && JD d typ wid at_ l.length (kk+1) (l.drop (kk+1)))):=by show _=_;rw[HL.2,HDR,JD,HEO];simp only;rw[HFI,hsB];rfl
  have HSAY:=zh hsay;have HGA:=zh hga;clear hsay hsB hga;go_wp2_with fail;refine HSAY.mono ?_;rintro r y5 ⟨rfl,hg6⟩;have HG6:=zh (HGA.trans hg6);clear hg6 f0 f1 f2 f3 f4 f5;cases sB
  ·exact D9
  go_wp2_with fail;go_roundw
  case rel=>exact⟨kk+1,by omega,by go_num,by
   show _∧_
   exact⟨HL.1.trans HG6.out,by rw[HKX];rfl⟩⟩
  case measure=>simp[intOf];omega
theorem rR (d:List UInt8) (typ k n u:Int) (s:ByteArray) (keys:List ByteArray) (l:List Tr) (hl:l.length≤4096) (hkl4:keys.length≤4096) (zN:∀x∈l,∀typ',((kA typ).1=10∨(kA typ).1=17∨typ'=(Ft.elemF typ).1)→gI d typ' x) (vC:(kA typ).1=17→dG d keys):VU d typ (.mk k n u s keys l):=by
 by_cases h17:(kA typ).1=17
 ·exact CZ d typ k n u s keys l hl hkl4 zN vC h17
 by_cases h10:(kA typ).1=10
 ·exact C1 d typ k n u s keys l hl hkl4 zN vC h10
 by_cases hm:(kA typ).2=0
 ·exact C2 d typ k n u s keys l hl hkl4 zN vC ⟨⟨h17,h10⟩,hm⟩
 exact C3 d typ k n u s keys l hl hkl4 zN vC ⟨⟨h17,h10⟩,hm⟩
def QJ (k:ByteArray):Tr:=.mk 5 0 0 k [] []
def gJ (l:List ByteArray):Tr:=.mk 13 0 0 ⟨#[]⟩ [] (l.map QJ)
theorem eS:kA 14=(13,0):=by decide +kernel
theorem NF:(Ft.elemF 14).1=4:=by decide +kernel
theorem nO (d:List UInt8) (w at_ n:Int) (hw:isW w=true):∀(l:List ByteArray) (i:Nat),JD d 14 w at_ n i (l.map QJ)=Z5 d w at_ i l
 | [],i=>rfl
 | k::r,i=>by
  have he:vY d 14 w at_ n i=(4,w,0):=by unfold vY;rw[eS,NF];rfl
  have hf:JU 14 w at_=at_ - w:=by unfold JU;rw[eS];rfl
  simp only[List.map_cons,JD,Z5];rw[he,hf,nO d w at_ n hw r (i+1)];simp only
  have hs:JY d 4 (at_+i*w) w w (at_ - w) (QJ k)=VD d (at_+i*w) w (at_ - w) k:=by
   unfold QJ;rw[bK,hw];have h1:Ft.legalB 4=true:=by decide +kernel
   have h2:Ft.inlineB 4=false:=by decide +kernel
   have h3:KM 4=true:=by decide
   rw[h1,h2,h3];unfold VD qO fJ yB;simp only[Tr.kind,Tr.fn,Tr.fu,Tr.fs,Tr.keys,Tr.kids];cases hf:cO d 4 (at_+i*w) w w (at_ - w)<;>simp[EMB]<;>(try rfl)
  rw[hs];simp
theorem C4 (d:List UInt8) (w at_:Int) (l:List ByteArray) (hw:isW w=true):JK d 14 w at_ (gJ l)=YW d w at_ l:=by
 unfold gJ;rw[Q8 eS];unfold YW yB;simp only[Tr.kind,Tr.fn,Tr.fu,Tr.fs,Tr.keys,Tr.kids,qb];rw[nO d w at_ _ hw];simp[vK,EMB,Bool.and_assoc]
theorem NG (l:List ByteArray) (j:Nat) (a b:ByteArray) (ha:l[j]? = some a) (hb:l[j+1]? = some b) (hlt:ltS a b=false):dW l=false:=by
 induction l generalizing j with
 | nil=>simp at ha
 | cons x r ih=>
  cases r with
  | nil=>simp at hb
  | cons y q=>
   cases j with
   | zero=>simp at ha hb;subst ha hb;simp[dW,hlt]
   | succ j=>simp only[dW];rw[ih j (by simpa using ha) (by simpa using hb)];simp
theorem inc_all (l:List ByteArray) (h:∀j a b,l[j]? = some a→l[j+1]? = some b→ltS a b=true):dW l=true:=by
 induction l with
 | nil=>rfl
 | cons x r ih=>
  cases r with
  | nil=>rfl
  | cons y q=>
   simp only[dW];rw[h 0 x y rfl rfl,ih λj a b ha hb=>h (j+1) a b (by simpa using ha) (by simpa using hb)];rfl
theorem GH (d:List UInt8) (l:List ByteArray) (hl:l.length≤4096) (hlist:VU d 14 (gJ l)):dG d l:=by
 intro dv first x kv w hD hks hf hw;have HD:=zh hD;have HKS:=zh hks;have hdl:=hD.2.1;obtain⟨da,dc,rfl,hdc⟩:=hD.form;obtain⟨a4,c4,rfl,hk1,hk2,hk3⟩:=hks;have HW:=zh hw;clear hD hk1 hk2 hk3;have hw1:1≤x∧x≤8:=by rcases yL hw with rfl | rfl | rfl | rfl<;>omega
 have HG:=zh (jC.refl w);have hwa:IntKind.i64.wrap (first+x)=first+x:=by rw[zy];omega
 obtain⟨res,j7⟩:∃b,QY d first x l=b:=⟨_,rfl⟩;rw[j7];have zJ:=zh j7;clear j7;unfold QY at zJ;have hn1:=Z4 d (.slice da d.length dc) first x;have hn2:=Z4 d (.slice da d.length dc) (first+x) x;have hp1:=rQ d first x hdl;have hp2:0≤(yF d (first+x) x).1∧(yF d (first+x) x).1≤9007199254740992:=by have:=YP d (first+x) x;unfold yF;simp only;omega
 have hp3:0≤(yF d first x).1∧(yF d first x).1≤9007199254740992:=by have:=YP d first x;unfold yF;simp only;omega
 generalize yF d first x=q1 at *;generalize yF d (first+x) x=q2 at *;obtain⟨off,is_⟩:=q1;obtain⟨wide,so⟩:=q2;simp only at hn1 hn2 hp1 hp2 hp3 zJ;have HN1:=zh hn1;have HN2:=zh hn2;clear hn1 hn2 hp1;go_enter func215,ntmps215;go_wp2_with fail;refine (HN1.out w (HD.out) zp8).mono ?_;rintro r u1 ⟨rfl,hgc⟩;replace HG:=zh (HG.trans hgc);clear hgc;go_wp2_with fail;refine (HN2.out u1 (HD.grew HG.out) zp8).mono ?_;rintro r u2 ⟨rfl,hgc⟩;replace HG:=zh (HG.trans hgc);clear hgc;go_wp2_with fail;refine (QR wide u2).mono ?_;rintro r w1 ⟨⟨cw,rfl⟩,e⟩;rw[e];clear e w1;cases is_
 ·skip;have HV:Hid (res=false):=by show _=_;rw[← zJ.out];simp
  go_wp2;go_ret;exact⟨by rw[HV];rfl,HG.out⟩
 cases so
 ·skip;have HV:Hid (res=false):=by show _=_;rw[← zJ.out];simp
  go_wp2;go_ret;exact⟨by rw[HV];rfl,HG.out⟩
 by_cases hww:isW wide=true;rotate_left
 ·have hce:(KF wide != 0)=true:=by unfold KF;rw[ze hww];decide
  have HV:Hid (res=false):=by show _=_;rw[← zJ.out];simp[hww]
  go_wp2;go_ret;exact⟨by rw[HV];rfl,HG.out⟩
 have hce:KF wide=0:=by unfold KF;rw[zl hww]
 rw[hce];clear hce;by_cases hle:off≤first;rotate_left
 ·have hgt:first < off:=by omega
  have HV:Hid (res=false):=by show _=_;rw[← zJ.out];simp[hle]
  go_wp2;go_ret;exact⟨by rw[HV];rfl,HG.out⟩
 have hwb:IntKind.i64.wrap (first - off)=first - off:=by rw[zy];omega
 have hwc:IntKind.i64.wrap (first - off - wide)=first - off - wide:=by rw[zy];omega
 by_cases hlt:first - off - wide < first;rotate_left
 ·have hge:first≤first - off - wide:=by omega
  have HV:Hid (res=false):=by show _=_;rw[← zJ.out];simp[show ¬first - off - wide < first from hlt]
  go_wp2;go_ret;exact⟨by rw[HV];rfl,HG.out⟩
 have HRS:Hid (res=(dW l && YW d wide (first - off) l)):=by show _=_;rw[← zJ.out,hww,qt hle,qt hlt];simp
 have HWW:=zh hww;have HAT:Hid (0≤first - off∧first - off≤1048576):=⟨by omega,by omega⟩;have hnge:¬first≤first - off - wide:=by omega
 have hdge:decide (first≤first - off - wide)=false:=decide_eq_false hnge;clear hww;go_wp2_with fail
 go_loopw [16,69] (λv i wr=>∃kk:Nat,kk≤l.length∧i=.int .i64 kk∧Hid (J2 (λ_=>False) u2 wr v ((l.take kk).map QJ)∧∀j a b,j+1 < kk→l[j]? = some a→l[j+1]? = some b→ltS a b=true)) (λ_ i _=>l.length - (intOf i).toNat)
 case atStart=>exact⟨0,Nat.zero_le _,rfl,by show _∧_;exact⟨J2.start _ _,λj a b h=>by omega⟩⟩
 case round=>
  obtain⟨kk,hkk,rfl,HL⟩:=hrel;have hgw:jC u2 wr:=by obtain⟨_,_,_,_,_,hm⟩:=HL.1;exact Moved.fresh (jC.refl _) hm (λg h=>h.elim)
  have HGW:=zh (HG.trans hgw);have HGU:=zh hgw;clear hgw;obtain⟨ga,gc,hfm,hz1,hz2,hz3⟩:=HL.1.form;rw[qb,qr,xy hkk] at hfm hz1;subst hfm;by_cases hlt2:kk < l.length;rotate_left
  ·have ek:kk=l.length:=by omega
   have HINC:Hid (dW l=true):=inc_all l (λj a b ha hb=>HL.2 j a b (by have:=(zi.1 hb).1;omega) ha hb);have HTR:=HL.1;rw[ek,qn] at HTR;subst ek
   have hnode:jM wr (gJ l) (.agg #[.int .i64 13,.int .i64 0,.int .u64 0,.string ⟨#[]⟩,.slice none 0 0,.slice ga l.length gc]):=by
    obtain⟨vs4,S4,q1,q2,q3,q4⟩:=HTR;exact⟨⟨by unfold kY;omega,by unfold kY;omega,by unfold KG;omega,by unfold kI;decide⟩,_,_,vs4,rfl,zB.nil _,q1.rows,q2.kids⟩
   have hcall:=hlist (.slice da d.length dc) 0 0 wide (first - off) _ wr (HD.grew HGW.out) hnode HAT.out HWW.out;rw[C4 d wide (first - off) l HWW.out] at hcall;obtain⟨nb,hnb⟩:∃b,YW d wide (first - off) l=b:=⟨_,rfl⟩;rw[hnb] at hcall;have HV:Hid (res=nb):=by show _=_;rw[HRS,HINC,hnb];rfl
   have HC:=zh hcall;clear hcall hnode hnb HTR hz1 hz2 hz3 hlt2 hlt;go_wp2_with fail;refine HC.mono ?_;rintro r u5 ⟨rfl,hg5⟩;have HG5:=zh (HGW.trans hg5);clear hg5;go_wp2;go_ret;exact⟨by rw[HV];rfl,HG5.out⟩
  obtain⟨y,hy⟩:∃y,l[kk]? = some y:=⟨_,za hlt2⟩;obtain⟨_,_,ee,hlc4,hlk4,_,kM⟩:=HKS.out;cases ee;obtain⟨hyz,b1,o1,e2,hc⟩:=kM kk y hy;subst e2;have cy:=HGW.cell hc;have HY:=zh hy;have hlti:(kk:Int) < l.length:=by omega
  have HTK:=zh (show (l.take kk).map QJ++[QJ y]=(l.take (kk+1)).map QJ by rw[qo,hy];simp);by_cases hk0:kk=0
  ·have hdg:decide (0 < kk)=false:=decide_eq_false zo;have hdg2:¬0 < kk:=by omega
   have hdi:¬(0:Int) < (kk:Int):=by omega
   have HK0:=zh hk0;clear hk0;obtain⟨vs4,S4,q1,q2,q3,q4⟩:=HL.1;have HV4:Hid (vs4.length=kk):=by show _=_;rw[q2.length,qb,qr];omega
   have HQ1:=zh q1;have HQ2:=zh q2;have HQ3:=zh q3;have HQ4:=zh q4;have HON:Hid (∀o,yM (wr.alloc o) u2.heap.size (.slice ga kk gc) vs4):=λo=>q1.grew ((jC.refl _).alloc o);have HSZ4:Hid (∀o,u2.heap.size≤(wr.alloc o).heap.size):=λo=>zf HGU.size ((jC.refl wr).alloc o).size
   have HOX:Hid (qA wr wr.heap.size (QJ y) (.agg #[.int .i64 5,.int .i64 0,.int .u64 0,.string y,.slice none 0 0,.slice none 0 0]) (JB wr wr)):=by
    refine qA.mono (S:=λ_=>False) ?_ (λ_ h=>h.elim);exact⟨⟨by unfold kY;omega,by unfold kY;omega,by unfold KG;omega,hyz,by simp⟩,_,_,[],λ_=>False,rfl,zG.nil _ _,yM.nil _ _,λg h=>gN,λg h=>gN,λg h=>gN,λg h=>h,rfl⟩
   clear q1 q2 q3 q4 hz1 hz2 hz3 kM hc hy;go_wp2_with (at_builtin;refine vH rfl _ _ rfl u2.heap.size _ vs4 rfl (HON.out _) _ _ (.agg #[.int .i64 5,.int .i64 0,.int .u64 0,.string y,.slice none 0 0,.slice none 0 0]) rfl (qc _ _) ⟨_,_,_,_,_,_,_,_,_,_,rfl⟩ zp30 (HSZ4.out _) ?_;intro v' w5 j5 hgr hnx;obtain⟨va2,vc2,hv5,hz1,hz2,hz3⟩:=jR j5.1;subst hv5;have HG5:=zh (J2.step (x:=QJ y) (λ_ h=>h.elim) vs4 S4 HQ2.out HQ1.out HQ3.out HQ4.out HOX.out (Moved.refl _ wr) _ j5 hgr hnx);clear j5 hgr hnx hz1 hz2 hz3);go_roundw
   case rel=>
    refine⟨kk+1,by omega,by go_num,?_⟩;show _∧_;refine⟨by rw[← HTK.out];have hh:=HG5.out;rw[zb] at hh;exact hh,λj a b hj ha hb=>?_⟩;by_cases hjk:j+1 < kk
    ·exact HL.2 j a b hjk ha hb
    exact absurd HK0.out zo
   case measure=>simp[intOf];omega
  obtain⟨j,rfl⟩:∃j,kk=j+1:=⟨kk - 1,by omega⟩;obtain⟨z,hzz⟩:∃z,l[j]? = some z:=⟨_,za zo⟩;obtain⟨_,b2,o2,e3,hc2⟩:=kM j z hzz;cases e3;have cz:=HGW.cell hc2;have hwj:IntKind.i64.wrap ((j:Int)+1 - 1)=j:=by rw[zy];omega
  have hjl:(j:Int) < l.length:=by omega
  have HZ:=zh hzz;have HKL:=zh (fH z y wr);obtain⟨lt,hltq⟩:∃b,ltS z y=b:=⟨_,rfl⟩;rw[hltq] at HKL;have HLT:=zh hltq;clear hltq hzz hc2;go_wp2_with fail;refine HKL.mono ?_;rintro r w9 ⟨rfl,e9⟩;rw[← e9];clear e9 w9;cases lt
  ·have HV:Hid (res=false):=by show _=_;rw[HRS,NG l j z y HZ.out HY.out HLT.out];rfl
   go_wp2;go_ret;exact⟨by rw[HV];rfl,HGW.out⟩
  skip;obtain⟨vs4,S4,q1,q2,q3,q4⟩:=HL.1;have HV4:Hid (vs4.length=(j+1)):=by show _=_;rw[q2.length,qb,qr];omega
  have HQ1:=zh q1;have HQ2:=zh q2;have HQ3:=zh q3;have HQ4:=zh q4;have HON:Hid (∀o,yM (wr.alloc o) u2.heap.size (.slice ga (j+1) gc) vs4):=λo=>q1.grew ((jC.refl _).alloc o);have HSZ4:Hid (∀o,u2.heap.size≤(wr.alloc o).heap.size):=λo=>zf HGU.size ((jC.refl wr).alloc o).size
  have HOX:Hid (qA wr wr.heap.size (QJ y) (.agg #[.int .i64 5,.int .i64 0,.int .u64 0,.string y,.slice none 0 0,.slice none 0 0]) (JB wr wr)):=by
   refine qA.mono (S:=λ_=>False) ?_ (λ_ h=>h.elim);exact⟨⟨by unfold kY;omega,by unfold kY;omega,by unfold KG;omega,hyz,by simp⟩,_,_,[],λ_=>False,rfl,zG.nil _ _,yM.nil _ _,λg h=>gN,λg h=>gN,λg h=>gN,λg h=>h,rfl⟩
  clear q1 q2 q3 q4 hz1 hz2 hz3 kM hc hy;go_wp2_with (at_builtin;refine vH rfl _ _ rfl u2.heap.size _ vs4 rfl (HON.out _) _ _ (.agg #[.int .i64 5,.int .i64 0,.int .u64 0,.string y,.slice none 0 0,.slice none 0 0]) rfl (qc _ _) ⟨_,_,_,_,_,_,_,_,_,_,rfl⟩ zp30 (HSZ4.out _) ?_;intro v' w5 j5 hgr hnx;obtain⟨va2,vc2,hv5,hz1,hz2,hz3⟩:=jR j5.1;subst hv5;have HG5:=zh (J2.step (x:=QJ y) (λ_ h=>h.elim) vs4 S4 HQ2.out HQ1.out HQ3.out HQ4.out HOX.out (Moved.refl _ wr) _ j5 hgr hnx);clear j5 hgr hnx hz1 hz2 hz3);go_roundw
  case rel=>
   refine⟨j+1+1,by omega,by go_num,?_⟩;show _∧_;refine⟨by rw[← HTK.out];have hh:=HG5.out;rw[zb] at hh;exact hh,λj2 a b hj ha hb=>?_⟩;by_cases hjk:j2+1 < (j+1)
   ·exact HL.2 j2 a b hjk ha hb
   have e:j2=j:=(by omega);subst e;have h1:=HZ.out;have h2:=HY.out;rw[ha] at h1;rw[hb] at h2;injection h1 with h1;injection h2 with h2;subst h1;subst h2;exact HLT.out
  case measure=>simp[intOf];omega
theorem GI (d:List UInt8) (l:List ByteArray) (hl:l.length≤4096) (hs:∀x∈l,x.size≤1000):VU d 14 (gJ l):=by
 unfold gJ;refine rR d 14 13 0 0 ⟨#[]⟩ [] (l.map QJ) (by simpa using hl) zp2 (λx hx typ' ht=>?_) (λh=>?_)
 ·obtain⟨k,hk,rfl⟩:=qh.1 hx;rw[eS,NF] at ht;have h4:typ'=4:=by rcases ht with h | h | h<;>first | exact h | (simp at h)
  subst h4;intro dv pos par wid lim tv w hD hn hp;exact nN d 4 (QJ k) (λ_ h=>absurd h zd) (hs k hk) dv pos par wid lim tv w hD hn hp
 rw[eS] at h;cases h
theorem NH (d:List UInt8) (l:List ByteArray) (hl:l.length≤4096) (hs:∀x∈l,x.size≤1000):dG d l:=GH d l hl (GI d l hl hs)
theorem C5 (k n u:Int) (s:ByteArray) (keys:List ByteArray) (l:List Tr):okS (.mk k n u s keys l)↔s.size≤1000∧(∀x∈keys,x.size≤1000)∧keys.length≤4096∧l.length≤4096∧∀x,x∈l→okS x:=by rw[okS]
theorem NI (d:List UInt8):∀(m:Nat) (t:Tr),t.size≤m→okS t→∀typ,VU d typ t:=by
 intro m
 induction m with
 | zero=>intro t h;have:=t.size_pos;omega
 | succ m ih=>
  intro t h ho typ;obtain⟨k,n,u,s,keys,l⟩:=t;rw[C5] at ho;obtain⟨h1,h2,h3,h4,h5⟩:=ho;refine rR d typ k n u s keys l h4 h3 (λx hx typ' _=>?_) (λ_=>NH d keys h3 h2);have hsz:=JC hx;simp only[Tr.size] at h;have hx5:=h5 x hx;intro dv pos par wid lim tv w hD hn hp;refine nN d typ' x (λ_ _=>ih x zo hx5 typ') ?_ dv pos par wid lim tv w hD hn hp;obtain⟨xk,xn,xu,xs,xkeys,xl⟩:=x;rw[C5] at hx5;exact hx5.1
theorem NJ (d:List UInt8) (typ:Int) (t:Tr) (ho:okS t):gI d typ t:=by
 intro dv pos par wid lim tv w hD hn hp;refine nN d typ t (λ_ _=>NI d t.size t (zr _) ho typ) ?_ dv pos par wid lim tv w hD hn hp;obtain⟨xk,xn,xu,xs,xkeys,xl⟩:=t;rw[C5] at ho;exact ho.1
def QK (d:List UInt8) (k:Nat):Int:=(((d[d.length - k]?).getD 0).toNat:Int)
def qM (d:List UInt8) (t:Tr):Bool:=
 decide (3≤d.length) && (decide ((Ft.unpackF ((d[d.length - 2]?).getD 0).toNat).2.2=0) && isW (QK d 1) && decide (0≤(d.length:Int) - 2 - QK d 1) && decide (((d.length:Int) - 2 - QK d 1) % QK d 1=0) &&
  JY d (Ft.unpackF ((d[d.length - 2]?).getD 0).toNat).1 ((d.length:Int) - 2 - QK d 1) (QK d 1) (Ft.unpackF ((d[d.length - 2]?).getD 0).toNat).2.1 ((d.length:Int) - 2 - QK d 1) t)
theorem D3 {w:World} {B:Nat} {v:Value} {l:List UInt8} (h:w.ownsRow B 5 1 v l.length (Lib.byteCells l)) (hl:l.length≤1048576):j6 w v l:=by
 refine⟨zK.of_own h,hl,λad n c e=>?_⟩;rcases h.2 with ⟨h1,_⟩|⟨g,cap,cur,h1,_,h2,_⟩
 ·rw[h1] at e;cases e
 rw[h1] at e;cases e;exact⟨(zc.1 h2).1,g,0,rfl⟩
theorem At_any (d:List UInt8) (dv:Value) (pos par typ wid:Int) (t:Tr) (ho:okS t) (tv:Value) (w:World) (hD:j6 w dv d) (hn:jM w t tv) (hp:kY pos):Calls prog 56 #[dv,.agg #[.int .i64 pos,.int .i64 par,.int .i64 typ,.int .i64 wid],tv] w λr w'=>r=.returned (.bool (JY d typ pos par wid pos t))∧jC w w':=by
 have HD:=zh hD;have HT:=zh hn;obtain⟨da,dc,rfl,_⟩:=hD.form;obtain⟨tk,tn,tu,ts,ta4,tn4,tc4,ta5,tn5,tc5,rfl⟩:=hn.node6;clear hD hn;have HG:=zh (jC.refl w);obtain⟨res,j7⟩:∃b,JY d typ pos par wid pos t=b:=⟨_,rfl⟩;have hs:=NJ d typ t ho (.slice da d.length dc) pos par wid pos (.agg #[.int .i64 tk,.int .i64 tn,.int .u64 tu,.string ts,.slice ta4 tn4 tc4,.slice ta5 tn5 tc5]);rw[j7] at hs⊢;have HS:=zh hs;clear hs j7;go_enter func56,ntmps56;go_upto_region 1 with fail;obtain⟨pr,hpr⟩:∃N,w.heap.size=N:=⟨_,rfl⟩;obtain⟨hr1,hga⟩:=sqal w (.cells #[.int .i64 pos,.int .i64 par,.int .i64 typ,.int .i64 wid] 88);have hz1:(w.alloc (.cells #[.int .i64 pos,.int .i64 par,.int .i64 typ,.int .i64 wid] 88)).heap.size=pr+1:=by rw[zm,hpr]
 generalize w.alloc _=x1 at *;rw[hpr] at hr1
 try rw[hpr]
 have HRR:=zh hr1;clear hr1 hpr;replace HD:=zh (j6.grew HD.out hga);replace HT:=zh (jM.grew hga HT.out);replace HG:=zh (HG.trans hga);clear hga;obtain⟨hr2,hga⟩:=sqal x1 (.cells #[.int .i64 tk,.int .i64 tn,.int .u64 tu,.string ts,.slice ta4 tn4 tc4,.slice ta5 tn5 tc5] 26);generalize x1.alloc _=x2 at *;rw[hz1] at hr2
 try rw[hz1]
 have HRT:=zh hr2;clear hr2 hz1;replace HD:=zh (j6.grew HD.out hga);replace HT:=zh (jM.grew hga HT.out);replace HRR:=zh (hga.heap HRR.out);replace HG:=zh (HG.trans hga);clear hga;obtain⟨c0,c1,c2,c3⟩:=sqr4 HRR;obtain⟨e0,e1,e2,e3,e4,e5⟩:=sqr6 HRT;go_wp2_with fail;refine (HS.out _ HD.out HT.out hp).mono ?_;rintro r u1 ⟨rfl,hgc⟩;replace HD:=zh (j6.grew HD.out hgc);replace HT:=zh (jM.grew hgc HT.out);replace HRR:=zh (hgc.heap HRR.out);replace HRT:=zh (hgc.heap HRT.out);replace HG:=zh (HG.trans hgc);clear hgc;clear c0 c1 c2 c3;clear e0 e1 e2 e3 e4 e5;go_wp2;go_ret;exact⟨rfl,HG.out⟩
theorem qS (d:List UInt8) (dv:Value) (t:Tr) (ho:okS t) (tv:Value) (w:World) (hD:j6 w dv d) (hn:jM w t tv):Calls prog 26 #[dv,tv] w λr w'=>r=.returned (.bool (qM d t))∧jC w w':=by
 have HD:=zh hD;have HT:=zh hn;have hdl:=hD.2.1;obtain⟨da,dc,rfl,hdc⟩:=hD.form;obtain⟨tk,tn,tu,ts,ta4,tn4,tc4,ta5,tn5,tc5,rfl⟩:=hn.node6;clear hD hn;have HG:=zh (jC.refl w);obtain⟨res,j7⟩:∃b,qM d t=b:=⟨_,rfl⟩;rw[j7];have zJ:=zh j7;clear j7;unfold qM at zJ;go_enter func26,ntmps26;go_upto_region 1 with fail;obtain⟨pr,hpr⟩:∃N,w.heap.size=N:=⟨_,rfl⟩;obtain⟨hr1,hga⟩:=sqal w (.cells #[.int .i64 tk,.int .i64 tn,.int .u64 tu,.string ts,.slice ta4 tn4 tc4,.slice ta5 tn5 tc5] 26);have hz1:(w.alloc (.cells #[.int .i64 tk,.int .i64 tn,.int .u64 tu,.string ts,.slice ta4 tn4 tc4,.slice ta5 tn5 tc5] 26)).heap.size=pr+1:=by rw[zm,hpr]
 generalize w.alloc _=x1 at *;rw[hpr] at hr1
 try rw[hpr]
 have HRT:=zh hr1;clear hr1 hpr;replace HD:=zh (j6.grew HD.out hga);replace HT:=zh (jM.grew hga HT.out);replace HG:=zh (HG.trans hga);clear hga;clear hz1;by_cases h3:3≤d.length;rotate_left
 ·have hl3:(d.length:Int) < 3:=by omega
  have HV:Hid (res=false):=by show _=_;rw[← zJ.out];simp[h3]
  go_wp2;go_ret;exact⟨by rw[HV];rfl,HG.out⟩
 have hl1:d.length - 1 < d.length:=by omega
 have hl2:d.length - 2 < d.length:=by omega
 obtain⟨b1,hb1⟩:∃b,d[d.length - 1]? = some b:=⟨_,za hl1⟩;obtain⟨b2,hb2⟩:∃b,d[d.length - 2]? = some b:=⟨_,za hl2⟩
 obtain⟨bl,bo,rfl,hc1⟩:∃bl bo,da=some ⟨bl,bo,none⟩∧x1.cell? ⟨bl,bo+(d.length - 1),none⟩=some (.int .u8 b1.toNat):=by
  obtain⟨⟨a,c,e,_,_,h⟩,_⟩:=HD.out;cases e;obtain⟨bl,bo,e,hc⟩:=h _ b1 hb1;exact⟨bl,bo,e,hc⟩
 have hc2:x1.cell? ⟨bl,bo+(d.length - 2),none⟩=some (.int .u8 b2.toNat):=by
  obtain⟨⟨a,c,e,_,_,h⟩,_⟩:=HD.out;cases e;obtain⟨bl',bo',e,hc⟩:=h _ b2 hb2;cases e;exact hc
 have e1:QK d 1=(b1.toNat:Int):=by unfold QK;rw[hb1];rfl
 rw[e1,hb2] at zJ;simp only[Option.getD_some] at zJ;have hbn:b1.toNat < 256:=UInt8.toNat_lt _;obtain⟨x,hx⟩:∃x:Int,(b1.toNat:Int)=x:=⟨_,rfl⟩;rw[hx] at zJ hc1;have hx0:0≤x∧x < 256:=by omega
 have hun:=Ft.unpack_any b2.toNat;obtain⟨un,hun2⟩:∃q,Ft.unpackF b2.toNat=q:=⟨_,rfl⟩;rw[hun2] at hun;simp only[hun2] at zJ;have HUN:=zh hun;clear hun hun2 e1 hx hbn hb1 hb2 hl1 hl2;obtain⟨own,wide,ue⟩:=un;simp only at HUN zJ;have hw1:IntKind.i64.wrap ((d.length:Int) - 1)=(d.length:Int) - 1:=by rw[zy];omega
 have hw2:IntKind.i64.wrap ((d.length:Int) - 2)=(d.length:Int) - 2:=by rw[zy];omega
 have hn1:((d.length:Int) - 1).toNat=d.length - 1:=by omega
 have hn2:((d.length:Int) - 2).toNat=d.length - 2:=by omega
 have hg1:0≤(d.length:Int) - 1∧(d.length:Int) - 1 < d.length:=by omega
 have hg2:0≤(d.length:Int) - 2∧(d.length:Int) - 2 < d.length:=by omega
 have hwx:IntKind.i64.wrap x=x:=by rw[zy];omega
 obtain⟨ps,hps⟩:∃p:Int,(d.length:Int) - 2 - x=p:=⟨_,rfl⟩;have hw3:IntKind.i64.wrap ((d.length:Int) - 2 - x)=ps:=by rw[zy];omega
 have hpr : -256≤ps∧ps≤1048576:=by omega
 rw[hps] at zJ;clear hps;go_wp2_with fail;refine (HUN.out x1 (UInt8.toNat_lt _)).mono ?_;rintro r u1 ⟨rfl,hgc⟩;clear hc1 hc2;replace HD:=zh (j6.grew HD.out hgc);replace HT:=zh (jM.grew hgc HT.out);replace HRT:=zh (hgc.heap HRT.out);replace HG:=zh (HG.trans hgc);clear hgc;go_wp2_with fail;refine (QR x u1).mono ?_;rintro r w1 ⟨⟨cw,rfl⟩,e⟩;rw[e];clear e w1;by_cases hue:ue=0;rotate_left
 ·have hbu:(ue != 0)=true:=by simpa using hue
  have HV:Hid (res=false):=by show _=_;rw[← zJ.out];simp[hue]
  go_wp2;go_ret;exact⟨by rw[HV];rfl,HG.out⟩
 subst hue;by_cases hww:isW x=true;rotate_left
 ·have hce:(KF x != 0)=true:=by unfold KF;rw[ze hww];decide
  have HV:Hid (res=false):=by show _=_;rw[← zJ.out];simp[hww]
  go_wp2;go_ret;exact⟨by rw[HV];rfl,HG.out⟩
 have hce:KF x=0:=by unfold KF;rw[zl hww]
 rw[hce];clear hce;by_cases hp0:0≤ps;rotate_left
 ·have hlt0:ps < 0:=by omega
  have HV:Hid (res=false):=by show _=_;rw[← zJ.out];simp[hp0]
  go_wp2;go_ret;exact⟨by rw[HV];rfl,HG.out⟩
 have hx1:1≤x∧x≤8:=by rcases yL hww with rfl | rfl | rfl | rfl<;>omega
 have ht:Int.tmod ps x=ps % x:=Int.tmod_eq_emod_of_nonneg hp0;have hwz:(x == 0)=false:=by rw[beq_eq_false_iff_ne];omega
 have hm0:0≤ps % x∧ps % x < 8:=⟨xg _ zo,Int.lt_of_lt_of_le (xd _ zo) hx1.2⟩;have hwm:IntKind.i64.wrap (ps % x)=ps % x:=by rw[zy];omega
 obtain⟨md,hmd⟩:∃q,ps % x=q:=⟨_,rfl⟩;rw[hmd] at ht hwm hm0;simp only[hmd] at zJ;clear hmd;by_cases hm:md=0;rotate_left
 ·have hbm:(md != 0)=true:=by simpa using hm
  have HV:Hid (res=false):=by show _=_;rw[← zJ.out];simp[hm]
  go_wp2;go_ret;exact⟨by rw[HV];rfl,HG.out⟩
 subst hm;have HRS:Hid (res=JY d own ps x wide ps t):=by show _=_;rw[← zJ.out];simp[h3,hww,hp0]
 have HPS:Hid (kY ps):=by show kY ps;unfold kY;omega
 have HDL:Hid (d.length≤1048576):=hdl;obtain⟨rb,hrb⟩:∃b,JY d own ps x wide ps t=b:=⟨_,rfl⟩;have HRB:=zh hrb;clear hrb;go_upto_region 9 with fail;obtain⟨e0,e1,e2,e3,e4,e5⟩:=sqr6 HRT;refine sqH jC [[],[0],[],[],[],[],[2,3,4,5],[],[0,1,2,3,4,5,6,7],[0,1,2,3,4,5,6,7,8]] [(59,0),(60,1),(61,2),(62,3),(63,4),(64,5),(65,6),(66,7),(67,8),(4,9)]
  [Is (.slice (some ⟨bl,bo,none⟩) d.length dc),λv w=>j6 w v d,Is (.int .i64 ps),Is (.int .i64 x),Is (.int .i64 own),Is (.int .i64 wide),Is (.agg #[.int .i64 ps,.int .i64 x,.int .i64 own,.int .i64 wide]),Is (.agg #[.int .i64 tk,.int .i64 tn,.int .u64 tu,.string ts,.slice ta4 tn4 tc4,.slice ta5 tn5 tc5]),Is (.bool rb),Is (.bool rb)]
  sqc zk jC.trans jC.refl (jC.refl _).drew zk ⟨jJ,λ_ _ _ hg h=>h.grew hg,jJ,jJ,jJ,jJ,jJ,jJ,jJ,jJ,trivial⟩ ?_ rfl ?_
 rotate_left
 ·intro y w2 hG hF;simp only[zV,Is,and_true,Nat.reduceAdd] at hF;have hlast:=hF.2.2.2.2.2.2.2.2.2;clear hF;simp only[jF,Act.put,zq,hlast];have HGF:=zh (HG.trans hG);clear hG hlast;go_wp2;go_ret;exact⟨by rw[HRS,HRB];rfl,HGF.out⟩
 refine⟨zsh,?_⟩;constructor
 ·intro y w2 hG hD K hK;simp only[kC,zq4,zq5,Is,and_true] at hD;generalize hA:jF y _ _=A at hK⊢;simp only[jF,Act.put,zq,Is] at hA;subst hA;simp only[hD] at hK⊢;clear hD;refine jN ?_;go_simp;refine (lI w2 _ d (HD.grew hG).1 zp25).mono ?_;rintro r w3 ⟨v',rfl,hv,hg3⟩;exact hK _ _ _ rfl hg3 (D3 hv HDL.out)
 refine⟨zsh,zsh,zsh,zsh,zsh,?_⟩;constructor
 ·intro y w2 hG hD K hK;have de0:=hG.cell e0;have de1:=hG.cell e1;have de2:=hG.cell e2;have de3:=hG.cell e3;have de4:=hG.cell e4;have de5:=hG.cell e5;exact zsg
 constructor
 ·intro y w2 hG hD K hK;simp only[kC,zq4,zq5,Is,and_true] at hD;have h1:=hD.2.1;generalize hA:jF y _ _=A at hK⊢;simp only[jF,Act.put,zq,Is] at hA;subst hA;simp only[hD] at hK⊢;clear hD;refine jN ?_;go_simp;refine (At_any d _ ps x own wide t ho _ w2 h1 (HT.grew hG) HPS.out).mono ?_;rintro r w3 ⟨rfl,hg3⟩;exact hK _ _ _ rfl hg3 (ql Value.bool HRB.out)
 refine⟨zsh,?_⟩;trivial
end Go.Proofs.YtdjoffgkndncfaaGreat
