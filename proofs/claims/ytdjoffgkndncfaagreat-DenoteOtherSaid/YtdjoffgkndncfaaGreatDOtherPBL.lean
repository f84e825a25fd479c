/-Texts-/
import Derived.Test.YtdjoffgkndncfaaGreatDOtherPBK
import Derived.ArgAppend
set_option linter.unusedVariables false
set_option linter.unusedSimpArgs false
set_option maxHeartbeats 32000000
set_option maxRecDepth 100000
namespace Go.Proofs.YtdjoffgkndncfaaGreat
open Go.Proofs.Tryz
open Go Go.ChangeShapes Go.WideShapes Go.ChangeAt Go.RowKit Go.Joins
open Ft (V3 vV okV ValsAt inlineB legalB packF codeF typedF allF allAt fitsL fitsV fitsF headF belowW)
variable {w:World} {B:Nat}
theorem pS {B':Nat} {v:Value} {l:List V3} (h:jU w B v l) (hb:B'≤B):jU w B' v l:=by
 refine⟨h.1,?_⟩;rcases h.2 with h2|⟨g,cap,cur,e,hg,r⟩
 ·exact .inl h2
 exact .inr ⟨g,cap,cur,e,zf hb hg,r⟩
abbrev bW (V:V3):Obj:=.cells #[.int .i64 V.1,.int .i64 V.2.1,.int .u64 V.2.2] 135 (0,0)
theorem CA {g:Nat} {V:V3} (hB:B≤g) (hg:w.heap[g]? = some (bW V)):jU w B (.slice (some ⟨g,0,none⟩) 1 1) [V]:=
 ⟨rfl,.inr ⟨g,1,_,rfl,hB,hg,zr _,by unfold maxLen;omega,rfl,rfl⟩⟩
end Go.Proofs.YtdjoffgkndncfaaGreat
namespace Go.Proofs.YtdjoffgkndncfaaGreat
open Go.Proofs.Tryz
open Go Go.ChangeShapes Go.WideShapes Go.ChangeAt Go.RowKit Go.Joins
open Ft (V3 vV okV ValsAt inlineB legalB packF codeF typedF allF)
variable {jB:Int} {B p:Nat} {w:World} {o:Option Nat} {v k:V3} {l:List V3}
theorem bQ (t x:Int):(packF t x).1=((UInt8.ofNat (packF t x).1.toNat).toNat:Int):=by
 have:=Y0 t x;rw[UInt8.toNat_ofNat'];omega
theorem eK {x:Int} {s:St} {ty wd vn:Int} (hi:inlineB ty=true):qP jB x s (ty,wd,vn)=j9 jB x (yD vn x) s:=by simp[qP,hi]
theorem hU (s:St) (x:Int) (v:V3) (hx:isW x=true) (h:yA B w p o s.1 jB s.2) (hB:B≤w.heap.size) (hl:(s.1.length:Int)≤jB) (hm1:jB≤1048576) (hok:okV v) :
 Calls prog 236 #[.agg #[jI p,.int .i64 x],vV v] w λr w'=>r=.returned (.tuple #[])∧kO B w w' p o jB (qP jB x s v):=by
 obtain⟨ty,wd,vn⟩:=v;obtain⟨n0,n1⟩:=hok;simp only at n0 n1;show Calls prog 236 #[.agg #[jI p,.int .i64 x],.agg #[.int .i64 ty,.int .i64 wd,.int .u64 vn]] w _;have HB:=zh h;have HX:=zh hx;have hs0:s.1.length≤1048576:=by omega
 have hwl:IntKind.u64.wrap (s.1.length:Int)=(s.1.length:Int):=by simp[IntKind.wrap,IntKind.bits,IntKind.signed];omega
 clear h hx;go_enter func236,ntmps236;go_wp2_with fail;have hg0:jC w ((w.alloc (.cells #[jI p,.int .i64 x] 260)).alloc (.cells #[.int .i64 ty,.int .i64 wd,.int .u64 vn] 135)):=((jC.refl w).alloc _).alloc _;have hr0:((w.alloc (.cells #[jI p,.int .i64 x] 260)).alloc (.cells #[.int .i64 ty,.int .i64 wd,.int .u64 vn] 135)).heap[w.heap.size]? = some (.cells #[jI p,.int .i64 x] 260):=((jC.refl _).alloc _).heap (qc w _)
 have hr1:((w.alloc (.cells #[jI p,.int .i64 x] 260)).alloc (.cells #[.int .i64 ty,.int .i64 wd,.int .u64 vn] 135)).heap[w.heap.size+1]? = some (.cells #[.int .i64 ty,.int .i64 wd,.int .u64 vn] 135):=by
  have h:=qc (w.alloc (.cells #[jI p,.int .i64 x] 260)) (.cells #[.int .i64 ty,.int .i64 wd,.int .u64 vn] 135);simpa using h
 generalize ((w.alloc (.cells #[jI p,.int .i64 x] 260)).alloc (.cells #[.int .i64 ty,.int .i64 wd,.int .u64 vn] 135))=w1 at *;have c0:=jO hr0 0 _ rfl;have c1:=jO hr0 1 _ rfl;have d0:=jO hr1 0 _ rfl;have d2:=jO hr1 2 _ rfl;have HG1:=zh hg0;have HB1:=zh (HB.grew hg0);clear hr0 hr1 hg0;refine kH jC [[],[0],[1],[2],[],[4],[3,5],[6]] [[(8,2),(9,3),(10,4),(11,5),(12,6),(4,7)],[(6,0),(9,3),(10,4),(11,5),(12,6),(4,7)],[(6,0),(7,1),(10,4),(11,5),(12,6),(4,7)],[(6,0),(7,1),(8,2),(10,4),(11,5),(4,7)],[(6,0),(7,1),(8,2),(9,3),(12,6),(4,7)],[(6,0),(7,1),(8,2),(9,3),(10,4),(4,7)],[(6,0),(7,1),(8,2),(9,3),(10,4),(11,5)],[(6,0),(7,1),(8,2),(9,3),(10,4),(11,5),(12,6)]] [(6,0),(7,1),(8,2),(9,3),(10,4),(11,5),(12,6),(4,7)]
  [Is (.pointer (some ⟨w.heap.size,0,none⟩)),Is (jI p),Is (.int .i64 (s.1.length:Int)),Is (.int .u64 (s.1.length:Int)),Is (.pointer (some ⟨w.heap.size+1,2,none⟩)),Is (.int .u64 vn),Is (.int .u64 (IntKind.u64.wrap ((s.1.length:Int) - vn))),Is (.int .u64 (IntKind.u64.wrap ((s.1.length:Int) - vn)))]
  zk jC.trans jC.refl (jC.refl _).drew zk ⟨jJ,jJ,jJ,jJ,jJ,jJ,jJ,jJ,trivial⟩ ⟨?_,?_,?_,?_,?_,?_,?_,?_,trivial⟩ rfl ?_
 ·exact zst
 ·intro y w2 hG hD K hK;have dc0:=hG.cell c0;have dd2:=hG.cell d2;exact zsr
 ·intro y w2 hG hD K hK;simp only[kC,zq4,zq5,Is,and_true] at hD;simp only[jF,Act.put,zq,Is] at hK⊢;simp only[hD] at hK⊢;clear hD;refine jN ?_;go_simp;refine (K6 (HB1.grew hG)).mono ?_;rintro r w3 ⟨rfl,rfl⟩;exact hK _ _ _ rfl (jC.refl _) rfl
 ·exact zst
 ·exact zst
 ·intro y w2 hG hD K hK;have dc0:=hG.cell c0;have dd2:=hG.cell d2;exact zsr
 ·exact zst
 ·exact zst
 intro y w2 hG hF;simp only[zV,Is,and_true,Nat.reduceAdd] at hF;simp only[jF,Act.put,zq,Is];simp only[hF];clear hF;replace c0:=hG.cell c0;replace c1:=hG.cell c1;replace d0:=hG.cell d0;replace d2:=hG.cell d2;have HG2:=zh (HG1.trans hG);clear hG;go_wp2_with fail;refine (Ft.inline_any ty _).mono ?_;rintro r w3 ⟨rfl,hg⟩;replace c0:=hg.cell c0;replace c1:=hg.cell c1;replace d2:=hg.cell d2;have HG3:=zh (HG2.trans hg);clear hg d0;by_cases hi:inlineB ty=true
 ·rw[hi];rcases zW HX.out with rfl|rfl|rfl|rfl
  ·have hlw:IntKind.u64.wrap (vn*72057594037927936) / 72057594037927936=yD vn 1:=(by unfold yD;simp[IntKind.wrap,IntKind.bits,IntKind.signed];omega);have HEL:Hid (qP jB 1 s (ty,wd,vn)=j9 jB 1 (yD vn 1) s):=(by show _=_;rw[eK hi]);have hlr:=VJ (n:=vn) (x:=1) n0 n1;go_wp2_with fail;refine (JF s 1 (yD vn 1) (HB.grew HG3.out) (zf hB HG3.size) hl hm1 hlr.1 hlr.2).mono ?_;rintro r w5 ⟨rfl,ht⟩;have HT:=zh (kO.after HG3.out ht);clear ht;go_wp2;go_end0;exact⟨rfl,by rw[HEL];exact HT.out⟩
  ·have hlw:IntKind.u64.wrap (vn*281474976710656) / 281474976710656=yD vn 2:=(by unfold yD;simp[IntKind.wrap,IntKind.bits,IntKind.signed];omega);have HEL:Hid (qP jB 2 s (ty,wd,vn)=j9 jB 2 (yD vn 2) s):=(by show _=_;rw[eK hi]);have hlr:=VJ (n:=vn) (x:=2) n0 n1;go_wp2_with fail;refine (JF s 2 (yD vn 2) (HB.grew HG3.out) (zf hB HG3.size) hl hm1 hlr.1 hlr.2).mono ?_;rintro r w5 ⟨rfl,ht⟩;have HT:=zh (kO.after HG3.out ht);clear ht;go_wp2;go_end0;exact⟨rfl,by rw[HEL];exact HT.out⟩
  ·have hlw:IntKind.u64.wrap (vn*4294967296) / 4294967296=yD vn 4:=(by unfold yD;simp[IntKind.wrap,IntKind.bits,IntKind.signed];omega);have HEL:Hid (qP jB 4 s (ty,wd,vn)=j9 jB 4 (yD vn 4) s):=(by show _=_;rw[eK hi]);have hlr:=VJ (n:=vn) (x:=4) n0 n1;go_wp2_with fail;refine (JF s 4 (yD vn 4) (HB.grew HG3.out) (zf hB HG3.size) hl hm1 hlr.1 hlr.2).mono ?_;rintro r w5 ⟨rfl,ht⟩;have HT:=zh (kO.after HG3.out ht);clear ht;go_wp2;go_end0;exact⟨rfl,by rw[HEL];exact HT.out⟩
  have hlw:yD vn 8=vn:=(by unfold yD;rw[Int.emod_eq_of_lt n0 zp6]);have HEL:Hid (qP jB 8 s (ty,wd,vn)=j9 jB 8 (vn) s):=(by show _=_;rw[eK hi];rw[hlw]);have hlr:=VJ (n:=vn) (x:=8) n0 n1;go_wp2_with fail;refine (JF s 8 (vn) (HB.grew HG3.out) (zf hB HG3.size) hl hm1 n0 n1).mono ?_;rintro r w5 ⟨rfl,ht⟩;have HT:=zh (kO.after HG3.out ht);clear ht;go_wp2;go_end0;exact⟨rfl,by rw[HEL];exact HT.out⟩
 have hi':inlineB ty=false:=by simpa using hi
 rw[hi'];go_wp2_with fail;refine (JF s x (IntKind.u64.wrap ((s.1.length:Int) - vn)) (HB.grew HG3.out) (zf hB HG3.size) hl hm1 (wV _) (wW _)).mono ?_;rintro r w5 ⟨rfl,ht⟩;have HEL:Hid (qP jB x s (ty,wd,vn)=j9 jB x (IntKind.u64.wrap ((s.1.length:Int) - vn)) s):=by show _=_;simp[qP,hi']
 have HT:=zh (kO.after HG3.out ht);clear ht;go_wp2;go_end0;exact⟨rfl,by rw[HEL];exact HT.out⟩
theorem L1 (s:St) (x:Int) (v:V3) (h:yA B w p o s.1 jB s.2) (hB:B≤w.heap.size) (hl:(s.1.length:Int)≤jB) (hm1:jB≤1048576) :
 Calls prog 237 #[.agg #[jI p,.int .i64 x],vV v] w λr w'=>r=.returned (.tuple #[])∧kO B w w' p o jB (sY jB x s v):=by
 obtain⟨ty,wd,vn⟩:=v;show Calls prog 237 #[.agg #[jI p,.int .i64 x],.agg #[.int .i64 ty,.int .i64 wd,.int .u64 vn]] w _;have HB:=zh h;clear h;go_enter func237,ntmps237;go_wp2_with fail;have hg0:jC w ((w.alloc (.cells #[jI p,.int .i64 x] 260)).alloc (.cells #[.int .i64 ty,.int .i64 wd,.int .u64 vn] 135)):=((jC.refl w).alloc _).alloc _;have hr0:((w.alloc (.cells #[jI p,.int .i64 x] 260)).alloc (.cells #[.int .i64 ty,.int .i64 wd,.int .u64 vn] 135)).heap[w.heap.size]? = some (.cells #[jI p,.int .i64 x] 260):=((jC.refl _).alloc _).heap (qc w _)
 have hr1:((w.alloc (.cells #[jI p,.int .i64 x] 260)).alloc (.cells #[.int .i64 ty,.int .i64 wd,.int .u64 vn] 135)).heap[w.heap.size+1]? = some (.cells #[.int .i64 ty,.int .i64 wd,.int .u64 vn] 135):=by
  have h:=qc (w.alloc (.cells #[jI p,.int .i64 x] 260)) (.cells #[.int .i64 ty,.int .i64 wd,.int .u64 vn] 135);simpa using h
 generalize ((w.alloc (.cells #[jI p,.int .i64 x] 260)).alloc (.cells #[.int .i64 ty,.int .i64 wd,.int .u64 vn] 135))=w1 at *;refine (Ft.inline_any ty _).mono ?_;rintro r w3 ⟨rfl,hg⟩;have c0:=jO (hg.heap hr0) 0 _ rfl;have c1:=jO (hg.heap hr0) 1 _ rfl;have d0:=jO (hg.heap hr1) 0 _ rfl;have d1:=jO (hg.heap hr1) 1 _ rfl;have HG3:=zh (hg0.trans hg);clear hg hr0 hr1 hg0;obtain⟨y,hy⟩:∃y,(if inlineB ty then x else wd)=y:=⟨_,rfl⟩;have HTB:Hid (KE x (ty,wd,vn)=UInt8.ofNat (packF ty y).1.toNat):=by show _=_;rw[← hy];rfl
 have HY:=zh hy;clear hy;cases hi:inlineB ty
 ·have hy:=HY.out;rw[hi] at hy;simp at hy;subst hy;clear HY;go_wp2_with fail;refine (Ft.pack_any ty wd _).mono ?_;rintro r w2 ⟨rfl,hg⟩;have HG2:=zh (HG3.trans hg);replace c0:=hg.cell c0;have hpk:=Y0 ty wd;have hb8:=bQ ty wd;generalize packF ty wd=pk at *;clear hg c1 d0 d1 hpk;have hst:=ZD (eA w2 pk.1 (UInt8.ofNat pk.1.toNat) hb8);clear hb8;go_wp2_with fail;refine (eB s ⟨#[UInt8.ofNat pk.1.toNat]⟩ _ zp2 (HB.grew (HG2.alloc _)) (zf hB (HG2.alloc _).size) hl hm1 (show (1:Nat)+0≤1073741824 by decide)).mono ?_;rintro r w5 ⟨rfl,ht⟩;have HT:=zh (kO.after (HG2.alloc _) ht);clear ht hst;go_wp2;go_end0;refine⟨rfl,?_⟩;show kO _ _ _ _ _ _ (kQ jB (jS [⟨#[KE x (ty,wd,vn)]⟩]) s);rw[HTB];exact HT.out
 have hy:=HY.out;rw[hi] at hy;simp at hy;subst hy;clear HY;go_wp2_with fail;refine (Ft.pack_any ty x _).mono ?_;rintro r w2 ⟨rfl,hg⟩;have HG2:=zh (HG3.trans hg);replace c0:=hg.cell c0;have hpk:=Y0 ty x;have hb8:=bQ ty x;generalize packF ty x=pk at *;clear hg c1 d0 d1 hpk;have hst:=ZD (eA w2 pk.1 (UInt8.ofNat pk.1.toNat) hb8);clear hb8;go_wp2_with fail;refine (eB s ⟨#[UInt8.ofNat pk.1.toNat]⟩ _ zp2 (HB.grew (HG2.alloc _)) (zf hB (HG2.alloc _).size) hl hm1 (show (1:Nat)+0≤1073741824 by decide)).mono ?_;rintro r w5 ⟨rfl,ht⟩;have HT:=zh (kO.after (HG2.alloc _) ht);clear ht hst;go_wp2;go_end0;refine⟨rfl,?_⟩;show kO _ _ _ _ _ _ (kQ jB (jS [⟨#[KE x (ty,wd,vn)]⟩]) s);rw[HTB];exact HT.out
def JX (k:V3) (l:List V3):Int:=if k.1=14 then (if isW k.2.1 then yK kG 0 l else 2) else 60
theorem L2:inlineB 14=false:=by decide
theorem L3 (h:legalB v.1=false):kG v=20:=by unfold kG;rw[ze (by rw[h];decide)]
theorem pT (h:legalB v.1=true) (hi:inlineB v.1=true):kG v=0:=by unfold kG;rw[zl h,zl hi]
theorem pU (h:legalB v.1=true) (hi:inlineB v.1=false):kG v=if isW v.2.1 then 0 else 2:=by unfold kG;rw[zl h,ze (by rw[hi];decide)]
theorem FE (k:V3) (lv:Value) (l:List V3) (w:World) (hv:ValsAt w lv l) (zX:∀c,lv=.slice none 0 c→c=0) (kE:l.length≤1048575) :
 Calls prog 235 #[vV k,lv] w λr w'=>r=.returned (.int .i64 (JX k l))∧jC w w':=by
 have HV:=zh hv;have HN:=zh zX;obtain⟨k0,k1,k2⟩:=k;obtain⟨la,lc,rfl,kM⟩:=hv;clear kM zX;show Calls prog 235 #[.agg #[.int .i64 k0,.int .i64 k1,.int .u64 k2],.slice la l.length lc] w _;by_cases hk:k0=14
 ·subst hk;have HE:Hid (JX (14,k1,k2) l=if isW k1 then yK kG 0 l else 2):=by show _=_;unfold JX;rw[zl rfl]
  go_enter func235,ntmps235;have hG2:jC w ((w.alloc (.cells #[.int .i64 14,.int .i64 k1,.int .u64 k2] 135)).alloc (.cells #[.int .i64 14,.int .i64 k1,.int .u64 k2] 135)):=((jC.refl w).alloc _).alloc _;have hR2:=qc (w.alloc (.cells #[.int .i64 14,.int .i64 k1,.int .u64 k2] 135)) (.cells #[.int .i64 14,.int .i64 k1,.int .u64 k2] 135);have hR3:((w.alloc (.cells #[.int .i64 14,.int .i64 k1,.int .u64 k2] 135)).alloc (.cells #[.int .i64 14,.int .i64 k1,.int .u64 k2] 135)).heap[w.heap.size+1]? = some (bW (14,k1,k2)):=by simpa using hR2
  have HO2:Hid (jU ((w.alloc (.cells #[.int .i64 14,.int .i64 k1,.int .u64 k2] 135)).alloc (.cells #[.int .i64 14,.int .i64 k1,.int .u64 k2] 135)) w.heap.size (.slice (some ⟨w.heap.size+1,0,none⟩) 1 1) [(14,k1,k2)]):=CA (Nat.le_succ _) hR3;have HG2:=zh hG2;have HV2:=zh (HV.grew hG2);clear hG2 hR2 hR3;go_wp2_with (at_builtin;refine qJ rfl _ _ rfl w.heap.size (.slice (some ⟨w.heap.size+1,0,none⟩) 1 1) [(14,k1,k2)] rfl HO2.out _ l rfl HV2.out HN.out zp6 zp6 ?_;intro v' w3 j5 hgr hqq;obtain⟨va2,vc2,rfl,_⟩:=zI j5;have HG3:=zh (aL HO2.out HG2.out hgr);have HW3:=zh j5.vals;clear j5 hgr hqq)
  go_loopw [17] (λi wr=>∃j:Nat,j≤l.length+1∧i=.int .i64 j∧Hid (jC w wr∧jC w3 wr∧(1≤j→isW k1=true)∧yK kG 0 (l.take (j - 1))=0)) (λi _=>l.length+1 - (intOf i).toNat)
  case atStart=>exact⟨0,Nat.zero_le _,rfl,by
   show _∧_∧_∧_
   exact⟨HG3.out,jC.refl _,λh=>by omega,rfl⟩⟩
  case round=>
   obtain⟨j,hj,rfl,HW⟩:=hrel;have HGW:=zh HW.1;have HG3W:=zh HW.2.1;have HKW:=zh HW.2.2.1;have HEA:=zh HW.2.2.2;clear HW;by_cases hlt:j < l.length+1
   ·obtain⟨va',vc',ev,hc⟩:=HW3.out;cases ev;have hji:(j:Int) < l.length+1:=(by omega);by_cases hj0:j=0
    ·have hjb:(j:Int)≤0:=(by omega);have hdb:decide (0 < (j:Int))=false:=(by simp;omega);obtain⟨b,off,rfl,d0,d1,d2⟩:=hc j (14,k1,k2) (by rw[hj0];rfl);replace d0:=HG3W.cell d0;replace d1:=HG3W.cell d1;replace d2:=HG3W.cell d2;simp only at d0 d1 d2;clear hc;have HJ:=zh hj0;clear hj0;by_cases hw:isW k1=true
     ·have HWK:=zh hw;go_wp2_with fail;refine (QS k1 _ hw).mono ?_;rintro r w4 ⟨⟨c,rfl⟩,rfl⟩;clear hw;go_wp2_with fail;refine (Ft.inline_any 14 _).mono ?_;rw[L2];rintro r w4 ⟨rfl,hg⟩;have HGG:=zh (((jC.refl _).alloc _).trans hg);clear hg;go_wp2;go_roundw
      case rel=>
       refine⟨j+1,by omega,by go_num,?_⟩;show _∧_∧_∧_;exact⟨HGW.trans HGG.out,HG3W.trans HGG.out,λ_=>HWK.out,by have:=HJ.out;subst this;simpa using HEA.out⟩
      case measure=>simp[intOf];omega
     have hw':isW k1=false:=(by simpa using hw);go_wp2_with fail;refine (bI k1 _ hw').mono ?_;rintro r w4 ⟨⟨c,rfl⟩,rfl⟩;go_wp2_with fail;refine (Ft.inline_any 14 _).mono ?_;rw[L2];rintro r w4 ⟨rfl,hg⟩;have HGG:=zh (((jC.refl _).alloc _).trans hg);clear hg;go_wp2;go_ret;exact⟨by rw[HE];rw[ze hw];rfl,HGW.trans HGG.out⟩
    obtain⟨q,rfl⟩:∃q,j=q+1:=⟨j - 1,by omega⟩;have hq:q < l.length:=(by omega);have hjb:0 < ((q+1:Nat):Int):=(by omega);obtain⟨u,hu⟩:∃u,l[q]? = some u:=⟨_,za hq⟩;obtain⟨b,off,rfl,d0,d1,d2⟩:=hc (q+1) u (by simpa using hu);replace d0:=HG3W.cell d0;replace d1:=HG3W.cell d1;replace d2:=HG3W.cell d2
    have HSN:Hid (yK kG 0 (l.take (q+1))=kG u):=by
     have h:=VM kG 0 l q hq (by simpa using HEA.out);rw[show l[q]=u from (zi.1 hu).2] at h;exact h
    have HBD:Hid (kG u≠0→yK kG 0 l=kG u):=by
     show _→_;intro h;rw[VL kG 0 l (q+1) (by rw[HSN];exact h)];exact HSN.out
    obtain⟨ty,wd,vn⟩:=u;simp only at d0 d1 d2;clear hc hu;generalize hjj:q+1=j at *;have hjl:j≤l.length+1:=(by omega);have HJJ:=zh hjj;clear hjj hj0;have HWK:=zh (HKW.out (by have:=HJJ.out;omega));go_wp2_with fail;have hcell0:True:=trivial;by_cases hw:isW wd=true
    ·refine (QS wd _ hw).mono ?_;rintro r w4 ⟨⟨c,rfl⟩,rfl⟩;go_wp2_with fail;refine (Ft.legal_any ty _).mono ?_;cases hlb:legalB ty
     ·exact zb53
     rintro r w5 ⟨rfl,hg5⟩;have ct:w5.cell? ⟨wr.heap.size,0,none⟩=some (.int .i64 ty):=hg5.cell zp3;have HG5:=zh (((jC.refl _).alloc _).trans hg5);clear hg5;go_wp2_with fail;refine (Ft.inline_any ty _).mono ?_;cases hi:inlineB ty
     ·rintro r w6 ⟨rfl,hg6⟩;have HGG:=zh (HG5.trans hg6);have hle:=pU (v:=(ty,wd,vn)) hlb hi;rw[zl hw] at hle;have HLE:=zh hle;clear hg6 hle ct;go_wp2;go_roundw
      case rel=>
       refine⟨j+1,by omega,by go_num,?_⟩;show _∧_∧_∧_;exact⟨HGW.trans HGG.out,HG3W.trans HGG.out,λ_=>HWK.out,by rw[Nat.add_sub_cancel];first | (rw[HSN];exact HLE.out) | (rw[HJJ,HSN];exact HLE.out)⟩
      case measure=>simp[intOf];omega
     rintro r w6 ⟨rfl,hg6⟩;have HGG:=zh (HG5.trans hg6);have HLE:=zh (pT (v:=(ty,wd,vn)) hlb hi);clear hg6 ct;go_wp2;go_roundw
     case rel=>
      refine⟨j+1,by omega,by go_num,?_⟩;show _∧_∧_∧_;exact⟨HGW.trans HGG.out,HG3W.trans HGG.out,λ_=>HWK.out,by rw[Nat.add_sub_cancel];first | (rw[HSN];exact HLE.out) | (rw[HJJ,HSN];exact HLE.out)⟩
     case measure=>simp[intOf];omega
    have hw':isW wd=false:=(by simpa using hw);refine (bI wd _ hw').mono ?_;rintro r w4 ⟨⟨c,rfl⟩,rfl⟩;go_wp2_with fail;refine (Ft.legal_any ty _).mono ?_;cases hlb:legalB ty
    ·exact zb53
    rintro r w5 ⟨rfl,hg5⟩;have ct:w5.cell? ⟨wr.heap.size,0,none⟩=some (.int .i64 ty):=hg5.cell zp3;have HG5:=zh (((jC.refl _).alloc _).trans hg5);clear hg5;go_wp2_with fail;refine (Ft.inline_any ty _).mono ?_;cases hi:inlineB ty
    ·rintro r w6 ⟨rfl,hg6⟩;have HGG:=zh (HG5.trans hg6);have hle:=pU (v:=(ty,wd,vn)) hlb hi;rw[ze hw] at hle;have HLE:=zh hle;clear hg6 hle ct;go_wp2;go_ret;exact⟨by rw[HE.out,zl HWK.out,HBD.out (by rw[HLE];decide),HLE.out];rfl,HGW.trans HGG.out⟩
    rintro r w6 ⟨rfl,hg6⟩;have HGG:=zh (HG5.trans hg6);have HLE:=zh (pT (v:=(ty,wd,vn)) hlb hi);clear hg6 ct;go_wp2;go_roundw
    case rel=>
     refine⟨j+1,by omega,by go_num,?_⟩;show _∧_∧_∧_;exact⟨HGW.trans HGG.out,HG3W.trans HGG.out,λ_=>HWK.out,by rw[Nat.add_sub_cancel];first | (rw[HSN];exact HLE.out) | (rw[HJJ,HSN];exact HLE.out)⟩
    case measure=>simp[intOf];omega
   have ej:j=l.length+1:=by omega
   have hz:yK kG 0 l=0:=by
    have:=HEA.out;rw[ej,Nat.add_sub_cancel,qn] at this;exact this
   have HZ:Hid (JX (14,k1,k2) l=0):=(by show _=_;rw[HE,zl (HKW.out zo),hz]);clear hz;go_wp2;go_ret;exact⟨by rw[HZ];rfl,HGW.out⟩
 have HE:Hid (JX (k0,k1,k2) l=60):=by show _=_;unfold JX;rw[ze hk]
 go_enter func235,ntmps235;go_wp2;go_ret;exact⟨by rw[HE];rfl,(jC.refl w).alloc _⟩
def KI (jB x:Int) (k:V3) (n:Nat) (s:St):St:=j9 jB x n (j9 jB x k.2.1 (qP jB x (jL jB x s) k))
def J4 (jB:Int) (k:V3) (l:List V3) (s:St):(V3 × Int) × St:=
 if JX k l≠0 then (((0,0,0),JX k l),s) else
 let x:=allF l k s.1.length 3
 if x=0 then (((0,0,0),211),s) else
 let s6:=z6 jB x l (jY jB x l (KI jB x k l.length s))
 if s6.2≠0 then (((0,0,0),s6.2),s6) else (((9,x,((KI jB x k l.length s).1.length:Int)),0),s6)
theorem FF {a b:Int} (h:allF l k a b≠0):isW (allF l k a b)=true:=Q3 h
def fR (B:Nat) (w:World) (p:Nat) (o:Option Nat) (jB:Int) (lv:Value) (l:List V3) (nR nK nX:Nat) (x:Int) (k:V3) (s:St) (o':Option Nat) (wn:World):Prop:=
 yA B wn p o' s.1 jB s.2∧yX w o o'∧Moved (KL p o) w wn∧(∀b,(b=nR∨b=nK∨b=nX∨∃ad n c,lv=.slice (some ad) n c∧ad.block=b)→b < wn.heap.size∧¬KL p o' b)∧ValsAt wn lv l ∧
  wn.heap[nR]? = some (bW (0,0,0))∧wn.heap[nK]? = some (bW k)∧wn.heap[nX]? = some (.cells #[jI p,.int .i64 x] 260 (0,0))
section
variable {B:Nat} {w:World} {p:Nat} {o:Option Nat} {jB:Int} {lv:Value} {l:List V3} {nR nK nX:Nat} {x:Int} {k:V3} {s s':St} {o':Option Nat} {wn wm:World}
theorem fR.step (h:fR B w p o jB lv l nR nK nX x k s o' wn) (ht:kO B wn wm p o' jB s'):∃o2,fR B w p o jB lv l nR nK nX x k s' o2 wm:=by
 obtain⟨hb,hn,hm,hk,hv,hr,hkk,hx⟩:=h;obtain⟨o2,b2,n2,m2⟩:=ht;have kR:=(hk nR (.inl rfl)).2;have kK:=(hk nK (.inr (.inl rfl))).2;have kX:=(hk nX (.inr (.inr (.inl rfl)))).2;refine⟨o2,b2,hn.trans n2 hm.size,hm.own hn m2,λb hb=>?_,Y1 hv m2 λad n c e=>(hk _ (.inr (.inr (.inr ⟨ad,n,c,e,rfl⟩)))).2,m2.heap hr kR,m2.heap hkk kK,m2.heap hx kX⟩;have h1:=hk b hb;refine⟨qk h1.1 m2.size,?_⟩;rintro (e|e)
 ·exact h1.2 (.inl e)
 rcases n2 b e.symm with e2|e2
 ·exact h1.2 (.inr e2.symm)
 omega
theorem fR.turnSet (h:fR B w p o jB lv l nR nK nX x k s o' wn) (hge:w.heap.size≤nR) (v0 v1 v2:Value):kO B w (((wn.setCell ⟨nR,0,none⟩ v0).setCell ⟨nR,1,none⟩ v1).setCell ⟨nR,2,none⟩ v2) p o jB s:=by
 obtain⟨hb,hn,hm,hk,_⟩:=h;have kR:=(hk nR (.inl rfl)).2
 have m:Moved (λk=>k=nR) wn (((wn.setCell ⟨nR,0,none⟩ v0).setCell ⟨nR,1,none⟩ v1).setCell ⟨nR,2,none⟩ v2):=
  Moved.setCell (S:=λk=>k=nR) (p:=⟨nR,2,none⟩) (Moved.setCell (S:=λk=>k=nR) (p:=⟨nR,1,none⟩) (Moved.setCell (S:=λk=>k=nR) (p:=⟨nR,0,none⟩) (Moved.refl _ wn) (λ_=>rfl) v0) (λ_=>rfl) v1) (λ_=>rfl) v2
 refine⟨o',hb.kept m (λe=>kR (.inl e.symm)) (λk e e2=>kR (.inr (by rw[e,e2]))),hn,hm.trans m λj hj e=>by omega⟩
end
theorem tB (h:JX k l=0):isW k.2.1=true:=by
 unfold JX at h;split at h
 ·split at h
  ·assumption
  cases h
 cases h
theorem put_map (s:St) (k:V3) (lv:Value) (l:List V3) (h:yA B w p o s.1 jB s.2) (hB:B≤w.heap.size) (hl:(s.1.length:Int)≤jB) (hm1:jB≤1048576)
 (hv:ValsAt w lv l) (zX:∀c,lv=.slice none 0 c→c=0) (kE:l.length≤1048575) (hok:∀v∈l,okV v) (hkk:okV k) (hap:∀ad n c,lv=.slice (some ad) n c→ad.block < w.heap.size∧¬KL p o ad.block) (hs:s.2=0) :
 Calls prog 193 #[jI p,vV k,lv] w λr w'=>r=.returned (J3 (J4 jB k l s).1)∧kO B w w' p o jB (J4 jB k l s).2:=by
 obtain⟨k0,k1,k2⟩:=k;have HB0:=zh h;have HA:=zh hap;have HOK:=zh hok;have HKK:=zh hkk;have HV:=zh hv;have HN:=zh zX;obtain⟨a,c,rfl,kM⟩:=hv;show Calls prog 193 #[jI p,.agg #[.int .i64 k0,.int .i64 k1,.int .u64 k2],.slice a l.length c] w _;generalize hP:J4 jB (k0,k1,k2) l s=P;have HPP:=zh hP;clear h hap hok kM hkk zX hP;go_enter func193,ntmps193;go_wp2_with fail;have hg0:jC w ((w.alloc (bW (k0,k1,k2))).alloc (bW (0,0,0))):=((jC.refl w).alloc _).alloc _;have hrK:((w.alloc (bW (k0,k1,k2))).alloc (bW (0,0,0))).heap[w.heap.size]? = some (bW (k0,k1,k2)):=((jC.refl _).alloc _).heap (qc w _)
 have hrR:((w.alloc (bW (k0,k1,k2))).alloc (bW (0,0,0))).heap[w.heap.size+1]? = some (bW (0,0,0)):=by
  have h:=qc (w.alloc (bW (k0,k1,k2))) (bW (0,0,0));simpa using h
 generalize ((w.alloc (bW (k0,k1,k2))).alloc (bW (0,0,0)))=w1 at *;have HG1:=zh hg0;have HRK:=zh hrK;have HRR:=zh hrR;clear hg0 hrK hrR;refine (KC (HB0.grew HG1.out)).mono ?_;rw[hs];rintro r w' ⟨rfl,e⟩;rw[e];clear e w';have ck0:=jO HRK.out 0 _ rfl;have ck1:=jO HRK.out 1 _ rfl;have ck2:=jO HRK.out 2 _ rfl;go_wp2_with fail;refine (FE (k0,k1,k2) _ l _ (HV.grew HG1.out) HN.out kE).mono ?_;rintro r w2 ⟨rfl,hg2⟩;have HG2:=zh (HG1.trans hg2);have HRK2:=zh (hg2.heap HRK.out);have HRR2:=zh (hg2.heap HRR.out);clear hg2 ck0 ck1 ck2 HRK HRR HG1;by_cases hce:JX (k0,k1,k2) l=0
 ·have HWK:=zh (tB hce);have HCE:=zh hce;rw[hce];clear hce;have HB2:=zh (HB0.grew HG2.out);have HV2:=zh (HV.grew HG2.out);have c0:=jO HRK2.out 0 _ rfl;have c1:=jO HRK2.out 1 _ rfl;have c2:=jO HRK2.out 2 _ rfl;go_wp2_with fail;refine kH jC [[],[0],[],[],[1,2,3],[4]] [[(33,2),(34,3),(35,4),(10,5)],[(31,0),(33,2),(34,3),(10,5)],[(31,0),(32,1),(34,3),(10,5)],[(31,0),(32,1),(33,2),(10,5)],[(31,0),(32,1),(33,2),(34,3)],[(31,0),(32,1),(33,2),(34,3),(35,4)]] [(31,0),(32,1),(33,2),(34,3),(35,4),(10,5)]
   [Is (jI p),Is (.int .i64 (s.1.length:Int)),Is (.agg #[.int .i64 k0,.int .i64 k1,.int .u64 k2]),Is (.slice a l.length c),Is (.int .i64 (allF l (k0,k1,k2) s.1.length 3)),Is (.int .i64 (allF l (k0,k1,k2) s.1.length 3))]
   zk jC.trans jC.refl (jC.refl _).drew zk ⟨jJ,jJ,jJ,jJ,jJ,jJ,trivial⟩ ⟨?_,?_,?_,?_,?_,?_,trivial⟩ rfl ?_
  ·exact zst
  ·intro y w2 hG hD K hK;simp only[kC,zq4,zq5,Is,and_true] at hD;simp only[jF,Act.put,zq,Is] at hK⊢;simp only[hD] at hK⊢;clear hD;refine jN ?_;go_simp;refine (K6 (HB2.grew hG)).mono ?_;rintro r w3 ⟨rfl,rfl⟩;exact hK _ _ _ rfl (jC.refl _) rfl
  ·intro y w2 hG hD K hK;have dc0:=hG.cell c0;have dc1:=hG.cell c1;have dc2:=hG.cell c2;exact zsr
  ·exact zst
  ·intro y w2 hG hD K hK;simp only[kC,zq4,zq5,Is,and_true] at hD;simp only[jF,Act.put,zq,Is] at hK⊢;simp only[hD] at hK⊢;clear hD;refine jN ?_;go_simp;refine (Ft.all_any l (k0,k1,k2) _ 3 _ _ zo HOK.out HKK.out (HV2.grew hG)).mono ?_;rintro r w3 ⟨rfl,hg⟩;exact hK _ _ _ rfl hg rfl
  ·exact zst
  intro y w2 hG hF;simp only[zV,Is,and_true,Nat.reduceAdd] at hF;simp only[jF,Act.put,zq,Is];simp only[hF];clear hF;have HG3:=zh (HG2.trans hG);have HRK3:=zh (hG.heap HRK2.out);have HRR3:=zh (hG.heap HRR2.out);clear hG c0 c1 c2 HB2 HV2 HRK2 HRR2 HG2;by_cases hx:allF l (k0,k1,k2) s.1.length 3=0
  ·have hF:J4 jB (k0,k1,k2) l s=(((0,0,0),211),s):=by
    unfold J4;rw[ze (by simpa using HCE.out)];simp[hx]
   have HF:=zh hF;clear hF;rw[hx];have jK:=HRR3.out;have f0:=jE jK 0;have f1:=jE jK 1;have f2:=jE jK 2;have c0:=jO jK 0 _ rfl;have c1:=jO jK 1 _ rfl;have c2:=jO jK 2 _ rfl;clear jK;go_wp2;refine bodyPost_ret (v:=J3 ((0,0,0),211)) ?_ rfl ⟨?_,?_⟩
   ·exact zb54
   ·exact nW
   rw[← HPP.out,HF];exact (kO.refl HB0.out).grew (((HG3.setCell (Nat.le_succ _) _).setCell (Nat.le_succ _) _).setCell (Nat.le_succ _) _)
  have HX:=zh (FF hx)
  have HF:Hid (∀x,allF l (k0,k1,k2) s.1.length 3=x→x≠0→J4 jB (k0,k1,k2) l s=if (z6 jB x l (jY jB x l (KI jB x (k0,k1,k2) l.length s))).2≠0 then (((0,0,0),(z6 jB x l (jY jB x l (KI jB x (k0,k1,k2) l.length s))).2),z6 jB x l (jY jB x l (KI jB x (k0,k1,k2) l.length s))) else (((9,x,((KI jB x (k0,k1,k2) l.length s).1.length:Int)),0),z6 jB x l (jY jB x l (KI jB x (k0,k1,k2) l.length s)))):=by
   show ∀x,_=x→_;intro x hx hx0;unfold J4;rw[ze (by simpa using HCE.out)];simp only;rw[hx,ze hx0]
  replace HF:=zh (HF.out _ rfl hx);generalize allF l (k0,k1,k2) s.1.length 3=x at *;have hxb:(x == 0)=false:=(by simpa using hx);go_wp2_with fail;have hrX:=qc w2 (.cells #[jI p,.int .i64 x] 260);have hgX:=(jC.refl w2).alloc (.cells #[jI p,.int .i64 x] 260);have hszX:(w2.alloc (.cells #[jI p,.int .i64 x] 260)).heap.size=w2.heap.size+1:=by simp
  have M0:fR B w p o jB (.slice a l.length c) l (w.heap.size+1) w.heap.size w2.heap.size x (k0,k1,k2) s o (w2.alloc (.cells #[jI p,.int .i64 x] 260)):=by
   have hb0:=HB0.lt;have hs3:=HG3.size;have hR:=(zc.1 HRR3.out).1;have hG:=HG3.trans hgX;refine⟨HB0.grew hG,yX.refl _ _,Moved.of_grew hG,?_,HV.grew hG,hgX.heap HRR3.out,hgX.heap HRK3.out,hrX⟩;rintro b (rfl|rfl|rfl|⟨ad,n,c',e,rfl⟩)
   ·exact⟨by omega,λh=>by have:=hb0 _ h;omega⟩
   ·exact⟨by omega,λh=>by have:=hb0 _ h;omega⟩
   ·exact⟨by omega,λh=>by have:=hb0 _ h;omega⟩
   exact zb50
  have HB3:B≤(w2.alloc (.cells #[jI p,.int .i64 x] 260)).heap.size:=(by have:=HG3.size;omega);have HM0:=zh M0;generalize w2.alloc _=v0 at *;generalize hnX:w2.heap.size=nX at *;clear M0 hrX hgX hszX HRK3 HRR3 HG3 hnX;refine (ZS s x HM0.1 HB3 hl hm1).mono ?_;rintro r v1 ⟨rfl,ht⟩;have HB4:B≤v1.heap.size:=(by obtain⟨_,_,_,m⟩:=ht;exact zf HB3 m.size);obtain⟨o1,m1⟩:=HM0.step ht;have HM1:=zh m1;have b0:=jO m1.2.2.2.2.2.2.2 0 _ rfl;have b1:=jO m1.2.2.2.2.2.2.2 1 _ rfl;have a0:=jO m1.2.2.2.2.2.2.1 0 _ rfl;have a1:=jO m1.2.2.2.2.2.2.1 1 _ rfl;have a2:=jO m1.2.2.2.2.2.2.1 2 _ rfl;clear ht m1;go_wp2_with fail;refine (hU (jL jB x s) x (k0,k1,k2) HX.out HM1.1 HB4 (z8 hl) hm1 HKK.out).mono ?_;rintro r v2 ⟨rfl,ht⟩;have HB5:B≤v2.heap.size:=(by obtain⟨_,_,_,m⟩:=ht;exact zf HB4 m.size);obtain⟨o2,m2⟩:=HM1.step ht;have HM2:=zh m2;replace b0:=jO m2.2.2.2.2.2.2.2 0 _ rfl;replace b1:=jO m2.2.2.2.2.2.2.2 1 _ rfl;replace a1:=jO m2.2.2.2.2.2.2.1 1 _ rfl;clear ht m2 a0 a2;have hk1:1≤k1∧k1≤8:=zA HWK.out;have hk1a:=hk1.1;have hk1b:=hk1.2;clear hk1;go_wp2_with fail;refine (JF (qP jB x (jL jB x s) (k0,k1,k2)) x k1 HM2.1 HB5 (eF (z8 hl)) hm1 zo zo).mono ?_;rintro r v3 ⟨rfl,ht⟩;have HB6:B≤v3.heap.size:=(by obtain⟨_,_,_,m⟩:=ht;exact zf HB5 m.size);obtain⟨o3,m3⟩:=HM2.step ht;have HM3:=zh m3;replace b0:=jO m3.2.2.2.2.2.2.2 0 _ rfl;replace b1:=jO m3.2.2.2.2.2.2.2 1 _ rfl;clear ht m3 a1;go_wp2_with fail;refine (JF (j9 jB x k1 (qP jB x (jL jB x s) (k0,k1,k2))) x (l.length:Int) HM3.1 HB6 (qV (eF (z8 hl))) hm1 zo zo).mono ?_;rintro r v4 ⟨rfl,ht⟩;have HB7:B≤v4.heap.size:=(by obtain⟨_,_,_,m⟩:=ht;exact zf HB6 m.size);obtain⟨o4,m4⟩:=HM3.step ht;have HM4:Hid (fR B w p o jB (.slice a l.length c) l (w.heap.size+1) w.heap.size nX x (k0,k1,k2) (KI jB x (k0,k1,k2) l.length s) o4 v4):=m4;replace b0:=jO m4.2.2.2.2.2.2.2 0 _ rfl;replace b1:=jO m4.2.2.2.2.2.2.2 1 _ rfl;have HLE:Hid (((KI jB x (k0,k1,k2) l.length s).1.length:Int)≤jB):=qV (qV (eF (z8 hl)));clear ht m4 HM0 HM1 HM2 HM3 HB3 HB4 HB5 HB6;go_wp2_with fail;refine (K6 HM4.1).mono ?_;rintro r w' ⟨rfl,e⟩;rw[e];clear e w';generalize KI jB x (k0,k1,k2) l.length s=s4 at *;have hs4:(s4.1.length:Int)≤1048576:=(by have:=HLE.out;omega);clear b0 b1;go_wp2_with fail
  go_loopw [68] (λi wr=>∃j:Nat,j≤l.length∧i=.int .i64 j∧Hid (∃oj,fR B w p o jB (.slice a l.length c) l (w.heap.size+1) w.heap.size nX x (k0,k1,k2) (jY jB x (l.take j) s4) oj wr∧B≤wr.heap.size)) (λi _=>l.length - (intOf i).toNat)
  case atStart=>exact⟨0,Nat.zero_le _,rfl,o4,HM4.out,HB7⟩
  case round=>
   obtain⟨j,hj,rfl,HW⟩:=hrel;by_cases hlt:j < l.length
   ·obtain⟨v,hv⟩:∃v,l[j]? = some v:=⟨_,za hlt⟩;obtain⟨oj,mj,hBj⟩:=HW.out;have HMJ:=zh mj;have HBJ:=zh hBj;have HSN:=zh (gX jB x l s4 j hlt);have HLJ:=zh (KX (x:=x) (l.take j) HLE.out);have HVK:=zh (HOK.out v (qd hv));have b0:=jO mj.2.2.2.2.2.2.2 0 _ rfl;have b1:=jO mj.2.2.2.2.2.2.2 1 _ rfl;obtain⟨a',c',ev,hc⟩:=mj.2.2.2.2.1;cases ev;obtain⟨bl,off,rfl,d0,d1,d2⟩:=hc j v hv;have HVE:Hid (l[j]=v):=(zi.1 hv).2;clear hv mj hBj hc HW;have hji:(j:Int) < l.length:=(by omega);obtain⟨ty,wd,vn⟩:=v;simp only at d0 d1 d2;have hga:=(jC.refl wr).alloc (.cells #[.int .i64 ty,.int .i64 wd,.int .u64 vn] 135);have e0:=hga.cell b0;have e1:=hga.cell b1;have HGA:=zh hga;clear hga;go_wp2_with fail;have hga:=HGA.out;refine (hU (jY jB x (l.take j) s4) x (ty,wd,vn) HX.out (HMJ.1.grew hga) (zf HBJ.out hga.size) HLJ.out hm1 HVK.out).mono ?_;rintro r wn ⟨rfl,ht⟩
    have HT:Hid (∃oj,fR B w p o jB (.slice (some ⟨bl,off,none⟩) l.length c) l (w.heap.size+1) w.heap.size nX x (k0,k1,k2) (jY jB x (l.take (j+1)) s4) oj wn∧B≤wn.heap.size):=by
     obtain⟨oa,ma⟩:=HMJ.step (kO.after hga ht);show ∃oj,_∧_;rw[HSN,HVE];obtain⟨_,_,_,mm⟩:=ht;exact⟨oa,ma,zf HBJ.out (zf hga.size mm.size)⟩
    clear ht hga d0 d1 d2 b0 b1 e0 e1;go_wp2;go_roundw
    case rel=>exact⟨j+1,by omega,by go_num,HT.out⟩
    case measure=>simp[intOf];omega
   have ej:j=l.length:=by omega
   have HM5:Hid (∃oj,fR B w p o jB (.slice a l.length c) l (w.heap.size+1) w.heap.size nX x (k0,k1,k2) (jY jB x l s4) oj wr∧B≤wr.heap.size):=by
    have:=HW.out;rw[ej,qn] at this;exact this
   have HLE5:=zh (KX (x:=x) l HLE.out);have hge:(l.length:Int)≤j:=(by omega);have hdb:decide (j < l.length)=false:=(by simp;omega);clear HW hlt ej hj;generalize jY jB x l s4=s5 at *;go_wp2_with fail
   go_loopw [78] (λi wr=>∃j:Nat,j≤l.length∧i=.int .i64 j∧Hid (∃oj,fR B w p o jB (.slice a l.length c) l (w.heap.size+1) w.heap.size nX x (k0,k1,k2) (z6 jB x (l.take j) s5) oj wr∧B≤wr.heap.size)) (λi _=>l.length - (intOf i).toNat)
   case atStart=>
    obtain⟨oj,mj,hBj⟩:=HM5.out;exact⟨0,Nat.zero_le _,rfl,oj,mj,hBj⟩
   case round=>
    obtain⟨j,hj,rfl,HW⟩:=hrel;by_cases hlt:j < l.length
    ·obtain⟨v,hv⟩:∃v,l[j]? = some v:=⟨_,za hlt⟩;obtain⟨oj,mj,hBj⟩:=HW.out;have HMJ:=zh mj;have HBJ:=zh hBj;have HSN:=zh (mF jB x l s5 j hlt);have HLJ:=zh (aJ (x:=x) (l.take j) HLE5.out);have b0:=jO mj.2.2.2.2.2.2.2 0 _ rfl;have b1:=jO mj.2.2.2.2.2.2.2 1 _ rfl;obtain⟨a',c',ev,hc⟩:=mj.2.2.2.2.1;cases ev;obtain⟨bl,off,rfl,d0,d1,d2⟩:=hc j v hv;have HVE:Hid (l[j]=v):=(zi.1 hv).2;clear hv mj hBj hc HW;have hji:(j:Int) < l.length:=(by omega);obtain⟨ty,wd,vn⟩:=v;simp only at d0 d1 d2;have hga:=(jC.refl wr).alloc (.cells #[.int .i64 ty,.int .i64 wd,.int .u64 vn] 135);have e0:=hga.cell b0;have e1:=hga.cell b1;have HGA:=zh hga;clear hga;go_wp2_with fail;have hga:=HGA.out;refine (L1 (z6 jB x (l.take j) s5) x (ty,wd,vn) (HMJ.1.grew hga) (zf HBJ.out hga.size) HLJ.out hm1).mono ?_;rintro r wn ⟨rfl,ht⟩
     have HT:Hid (∃oj,fR B w p o jB (.slice (some ⟨bl,off,none⟩) l.length c) l (w.heap.size+1) w.heap.size nX x (k0,k1,k2) (z6 jB x (l.take (j+1)) s5) oj wn∧B≤wn.heap.size):=by
      obtain⟨oa,ma⟩:=HMJ.step (kO.after hga ht);show ∃oj,_∧_;rw[HSN,HVE];obtain⟨_,_,_,mm⟩:=ht;exact⟨oa,ma,zf HBJ.out (zf hga.size mm.size)⟩
     clear ht hga d0 d1 d2 b0 b1 e0 e1;go_wp2;go_roundw
     case rel=>exact⟨j+1,by omega,by go_num,HT.out⟩
     case measure=>simp[intOf];omega
    have ej:j=l.length:=by omega
    have hm6:∃oj,fR B w p o jB (.slice a l.length c) l (w.heap.size+1) w.heap.size nX x (k0,k1,k2) (z6 jB x l s5) oj wr∧B≤wr.heap.size:=by
     have:=HW.out;rw[ej,qn] at this;exact this
    obtain⟨o6,m6,hB6⟩:=hm6;have HM6:=zh m6;have b0:=jO m6.2.2.2.2.2.2.2 0 _ rfl;have jK:=m6.2.2.2.2.2.1;have f0:=jE jK 0;have f1:=jE jK 1;have f2:=jE jK 2;have c0:=jO jK 0 _ rfl;have c1:=jO jK 1 _ rfl;have c2:=jO jK 2 _ rfl;have hge:(l.length:Int)≤j:=(by omega);clear HW hlt ej hj m6 jK HM5;go_wp2_with fail;refine (KC HM6.1).mono ?_;rintro r w' ⟨rfl,e⟩;rw[e];clear e w' b0;by_cases hz:(z6 jB x l s5).2=0
    ·have HF2:=zh (HF.trans (ze A4));rw[hz];clear hz HF;generalize z6 jB x l s5=s6 at *;go_wp2;refine bodyPost_ret (v:=J3 ((9,x,(s4.1.length:Int)),0)) ?_ rfl ⟨?_,?_⟩
     ·exact zb54
     ·rw[← HPP.out,HF2]
     rw[← HPP.out,HF2];exact HM6.turnSet (Nat.le_succ _) _ _ _
    have HF2:=zh (HF.trans (zl A4));clear HF;generalize z6 jB x l s5=s6 at *;go_wp2;refine bodyPost_ret (v:=J3 ((0,0,0),s6.2)) ?_ rfl ⟨?_,?_⟩
    ·exact zb54
    ·rw[← HPP.out,HF2]
    rw[← HPP.out,HF2];exact HM6.turnSet (Nat.le_succ _) _ _ _
 have hF:J4 jB (k0,k1,k2) l s=(((0,0,0),JX (k0,k1,k2) l),s):=by
  unfold J4;rw[zl hce]
 have HF:=zh hF;clear hF;generalize JX (k0,k1,k2) l=e at *;have jK:=HRR2.out;have f0:=jE jK 0;have f1:=jE jK 1;have f2:=jE jK 2;have c0:=jO jK 0 _ rfl;have c1:=jO jK 1 _ rfl;have c2:=jO jK 2 _ rfl;clear jK;go_wp2;refine bodyPost_ret (v:=J3 ((0,0,0),e)) ?_ rfl ⟨?_,?_⟩
 ·exact zb54
 ·exact nW
 rw[← HPP.out,HF];exact (kO.refl HB0.out).grew (((HG2.setCell (Nat.le_succ _) _).setCell (Nat.le_succ _) _).setCell (Nat.le_succ _) _)
end Go.Proofs.YtdjoffgkndncfaaGreat
namespace Go.Proofs.YtdjoffgkndncfaaGreat
open Go.Proofs.Tryz
open Go Go.ChangeShapes Go.WideShapes Go.ChangeAt Go.RowKit Go.Joins Go.Deep
open Ft (V3 vV okV ValsAt inlineB legalB packF codeF typedF allF)
variable {w:World} {B size n p g c:Nat} {v v':Value} {xs:List Value} {a:Option Addr} {S:Nat→Prop} {l:List V3}
def Y4 (S S':Nat→Prop) (w w':World):Prop:=∀k,S' k→S k∨(w.heap.size≤k∧k < w'.heap.size)
theorem Y4.refl (S:Nat→Prop) (w w':World):Y4 S S w w':=λ_ h=>.inl h
theorem vL {e:TypeId} {cs:Array Value} {t:TypeId} {fr:Nat × Nat} (h:w.ownsRow B e size v n xs) (hp:w.heap[p]? = some (.cells cs t fr)) (hne:t≠e):v.ownBlock≠some p:=by
 rcases h.2 with ⟨rfl,_⟩|⟨g,cap,cur,rfl,_,hg,_⟩
 ·intro h;cases h
 intro h;have:g=p:=by injection h
 subst this;rw[hg] at hp;injection hp with hp;injection hp with _ hp _;exact hne hp.symm
theorem cY {B':Nat} {e e':TypeId} {size':Nat} {n':Nat} {xs':List Value} (h:w.ownsRow B e size v n xs) (h':w.ownsRow B' e' size' v' n' xs') (hne:e≠e') (hg:v.ownBlock=some g):v'.ownBlock≠some g:=by
 rcases h.2 with ⟨rfl,_⟩|⟨g1,cap,cur,rfl,_,hg1,_⟩
 ·cases hg
 have:g1=g:=by injection hg
 subst this;exact vL h' hg1 hne
theorem YN {e:TypeId} (h:w.ownsRow B e size v n xs) (hg:v.ownBlock=some g):g < w.heap.size:=by
 rcases h.2 with ⟨rfl,_⟩|⟨g1,cap,cur,rfl,_,hg1,_⟩
 ·cases hg
 have:g1=g:=by injection hg
 subst this;exact (zc.1 hg1).1
theorem FG {e:TypeId} (h:w.ownsRow B e size (.slice a n c) n xs) (k:Nat) (hk:k≤n):w.ownsRow B e size (.slice a k c) k (xs.take (k*size)):=by
 obtain⟨h1,h2⟩:=h;refine⟨by rw[qr,h1];exact xy (Nat.mul_le_mul_right _ hk),?_⟩;rcases h2 with ⟨he,hn⟩|⟨g,cap,cur,he,hb,hg,hn,hm,hs,ht⟩
 ·injection he with e1 e2 e3;subst e1 e3;exact .inl ⟨by rw[show k=0 by omega],by omega⟩
 injection he with e1 e2 e3;subst e1 e3;refine .inr ⟨g,c,cur,rfl,hb,hg,by omega,hm,hs,?_⟩;rw[← ht,yh,xy (Nat.mul_le_mul_right _ hk)]
theorem cD:∀(l:List V3) (k:Nat),(zQ l).take (k*3)=zQ (l.take k)
 | [],k=>by simp[zQ]
 | v::r,0=>by simp[zQ]
 | v::r,k+1=>by
  have ih:=cD r k;have e:zQ (v::r)=aK v++zQ r:=by simp[zQ]
  have e2:zQ ((v::r).take (k+1))=aK v++zQ (r.take k):=by simp[zQ]
  rw[e,e2,← ih,List.take_append,show (k+1)*3 - (aK v).length=k*3 by simp[aK];omega,List.take_of_length_le (by simp[aK];omega)]
def ZF (w:World) (p:Nat) (S:Nat→Prop) (l:List V3):Prop:=
 S p∧∃v,w.heap[p]? = some (.cells #[v,.bool true] 167 (0,0))∧jU w 0 v l∧∀g,v.ownBlock=some g→S g
section
variable {w w':World} {p:Nat} {S S' T:Nat→Prop} {l:List V3}
theorem ZF.kept (h:ZF w p S l) (hm:Moved T w w') (hd:∀k,S k→¬T k):ZF w' p S l:=by
 obtain⟨h0,v,h1,h2,h3⟩:=h;exact⟨h0,v,hm.heap h1 (hd _ h0),hm.owns h2 (λk hk=>hd k (h3 k hk)),h3⟩
theorem ZF.mono (h:ZF w p S l) (hs:∀k,k < w.heap.size→S k→S' k):ZF w p S' l:=by
 obtain⟨h0,v,h1,h2,h3⟩:=h;exact⟨hs _ (zc.1 h1).1 h0,v,h1,h2,λg hg=>hs g (YN h2 hg) (h3 g hg)⟩
theorem ZF.grew (h:ZF w p S l) (hg:jC w w'):ZF w' p S l:=h.kept (Moved.of_grew (S:=λ_=>False) hg) (λ_ _ h=>h)
theorem ZT {a b:Value} {t:TypeId} (h:w.heap[p]? = some (.cells #[a,b] t (0,0))):w.cell? ⟨p,0,none⟩=some a∧w.cell? ⟨p,1,none⟩=some b:=
 ⟨by rw[cell_of_row w p 0 _ _ _ h];rfl,by rw[cell_of_row w p 1 _ _ _ h];rfl⟩
end
theorem bR (h:ZF w p S l):Calls prog 151 #[jI p] w λr w'=>r=.returned (.bool false)∧w'=w:=by
 obtain⟨_,v,h1,_⟩:=h;obtain⟨c0,c1⟩:=ZT h1;clear h1;go_enter func151,ntmps151;go_wp2;go_ret;exact⟨rfl,rfl⟩
theorem xB (h:ZF w p S l):Calls prog 189 #[jI p] w λr w'=>r=.returned (.int .i64 l.length)∧w'=w:=by
 have HB:=zh h;obtain⟨_,v,h1,h2,_⟩:=h;obtain⟨c0,c1⟩:=ZT h1;obtain⟨a,c,rfl,_⟩:=zI h2;clear h1 h2;go_enter func189,ntmps189;go_wp2_with fail;refine (bR HB.out).mono ?_;rintro r w' ⟨rfl,rfl⟩;go_wp2;go_ret;exact⟨rfl,rfl⟩
def hZ (p:Nat) (S:Nat→Prop) (l:List V3) (w w':World):Prop:=∃S',ZF w' p S' l∧Y4 S S' w w'∧Moved S w w'
theorem hZ.refl (h:ZF w p S l):hZ p S l w w:=⟨S,h,Y4.refl _ _ _,Moved.refl _ _⟩
theorem CB {w3:World} {l':List V3} (h0:S p) (h1:w.heap[p]? = some (.cells #[v,.bool true] 167 (0,0))) (h2:v.ownBlock≠some p) (h3:∀g,v.ownBlock=some g→S g)
 (j5:jU w3 0 v' l') (hgr:w.grownBy w3 v.ownBlock) (hnx:yX w v.ownBlock v'.ownBlock) :
 w3.heap[p]? = some (.cells #[v,.bool true] 167 (0,0))∧hZ p S l' w (w3.setCell ⟨p,0,none⟩ v'):=by
 have hlt:p < w.heap.size:=(zc.1 h1).1;have hp3:w3.heap[p]? = some (.cells #[v,.bool true] 167 (0,0)):=(hgr.block p hlt (λhe=>h2 he.symm)).trans h1;have hne:v'.ownBlock≠some p:=vL j5 hp3 zd;have hm:Moved (λk=>k=p) w3 (w3.setCell ⟨p,0,none⟩ v'):=zZ w3 p 0 v';have hh:(w3.setCell ⟨p,0,none⟩ v').heap[p]? = some (.cells #[v',.bool true] 167 (0,0)):=by have:=heap_setCell_same w3 p 0 _ _ v' hp3;simpa using this
 refine⟨hp3,λk=>k=p∨v'.ownBlock=some k,⟨.inl rfl,v',hh,hm.owns j5 (λk hk he=>hne (by rw[hk,he])),λg hg=>.inr hg⟩,λk hk=>?_,?_⟩
 ·rcases hk with rfl|hk
  ·exact .inl h0
  rcases hnx k hk with h|h
  ·exact .inl (h3 k h)
  exact .inr ⟨h,qk (YN j5 hk) hm.size⟩
 exact (Moved.of_grown hgr).mono (T:=S) (λj _ hj=>h3 j hj.symm) |>.trans hm (λj _ hj=>hj ▸ h0)
theorem FH {m:List V3} (sv:Value) (h:ZF w p S l) (hl:l.length≤65536) (hv:ValsAt w sv m) (zX:∀c,sv=.slice none 0 c→c=0) (hm:m.length≤65536) :
 Calls prog 190 #[jI p,sv] w λr w'=>r=.returned (.int .i64 (if l.length+m.length≤65536 then 0 else 5))∧hZ p S (if l.length+m.length≤65536 then l++m else l) w w':=by
 have HB:=zh h;have HV:=zh hv;have HN:=zh zX;obtain⟨h0,v,h1,h2,h3⟩:=h;have hne:Hid (v.ownBlock≠some p):=vL h2 h1 zd;obtain⟨c0,c1⟩:=ZT h1;obtain⟨va,vc,rfl,_⟩:=zI h2;obtain⟨xa,xc,rfl,_⟩:=hv;have H0:=zh h0;have H1:=zh h1;have H2:=zh h2;have H3:=zh h3;have f0:=jE h1 0;clear h0 h1 h2 h3 zX;by_cases hlt:l.length+m.length≤65536
 ·have hlt2:¬(m.length:Int) > 65536 - l.length:=by omega
  rw[zl hlt,zl hlt];have HLT:=zh hlt;clear hlt;go_enter func190,ntmps190;go_wp2_with fail;refine (bR HB.out).mono ?_;rintro r w' ⟨rfl,rfl⟩;go_wp2_with (at_builtin;refine qJ rfl _ _ rfl 0 (.slice va l.length vc) l rfl H2.out _ m rfl HV.out HN.out (by have:=HLT.out;omega) (Nat.zero_le _) ?_;intro v' w3 j5 hgr hqq;obtain⟨va2,vc2,rfl,_⟩:=zI j5;have hd:=CB H0.out H1.out hne.out H3.out j5 hgr hqq;have hp3:=hd.1;have HD:=zh hd.2;clear hd;obtain⟨d0,d1⟩:=ZT hp3;replace f0:=jE hp3 0;clear hp3 j5 hgr hqq c0 c1);go_wp2;go_ret;have HE:=HD.out;rw[zb] at HE;exact⟨rfl,HE⟩
 have hlt2:(m.length:Int) > 65536 - l.length:=by omega
 rw[ze hlt,ze hlt];go_enter func190,ntmps190;go_wp2_with fail;refine (bR HB.out).mono ?_;rintro r w' ⟨rfl,rfl⟩;go_wp2;go_ret;exact⟨rfl,hZ.refl HB.out⟩
theorem mM (w:World) (v:Value) (x:List V3) (h:ValsAt w v x) (zX:∀c,v=.slice none 0 c→c=0) (hl:x.length≤1048576) :
 Calls prog 199 #[v] w λr w'=>∃v',r=.returned v'∧jU w' w.heap.size v' x∧jC w w':=by
 have HX:=zh h;have HN:=zh zX;obtain⟨a,c,rfl,hc⟩:=h
 cases a with
 | none=>
  have h1:x=[]:=by
   cases x with
   | nil=>rfl
   | cons y r=>obtain⟨b,off,e,_⟩:=hc 0 y rfl;cases e
  subst h1;have h0:=zX c rfl;subst h0;have hq:=λW=>Lib.run_eql_slice_nil_nil (P:=prog) W 0 0 underlying109;show Calls prog 199 #[.slice none 0 0] w _;go_enter func199,ntmps199;go_wp2;go_ret;exact⟨_,rfl,World.ownsRow_nil _ _ _ _,jC.refl _⟩
 | some ad=>
  have hq:=λW=>Lib.run_eql_slice_some_nil (P:=prog) W ad x.length c underlying109
  have j5:Hid (jU (w.alloc (.cells #[] 135)) w.heap.size (.slice (some ⟨w.heap.size,0,none⟩) 0 0) []):=
   World.ownsRow_made w #[] 0 (zr _) zd rfl
  have HX2:Hid (ValsAt (w.alloc (.cells #[] 135)) (.slice (some ad) x.length c) x):=HX.grew ((jC.refl w).alloc (.cells #[] 135));clear hc zX;go_enter func199,ntmps199;go_wp2_with (at_builtin;refine qJ rfl _ _ rfl w.heap.size (.slice (some ⟨w.heap.size,0,none⟩) 0 0) [] rfl j5.out _ x rfl HX2.out HN.out zp6 zp2 ?_;intro v' w3 hown2 hgr hqq;obtain⟨va2,vc2,rfl,_⟩:=zI hown2;have HO:=zh (qa hown2 hgr);clear hown2 hgr hqq);go_ret;refine⟨_,rfl,by simpa using HO.1,?_⟩;have h1:Below w.heap.size w (w.alloc (.cells #[] 135)):=(jC.refl w).alloc _;exact h1.grown HO.2 zp2 (λk hk=>by cases hk;exact zr _)
def InR (i:Int) (n:Nat):Prop:=0≤i∧i≤n
theorem FI (h:jU w B (.slice a l.length c) l) (k:Nat) (hk:k≤l.length) (a':Option Addr) (c':Nat) (ha:∀b off,a=some ⟨b,off,none⟩→k < c→a'=some ⟨b,off+k*3,none⟩):ValsAt w (.slice a' (l.drop k).length c') (l.drop k):=by
 have hv:=h.vals;obtain⟨a0,c0,e,hc⟩:=hv;injection e with e1 e2 e3;subst e1 e3;refine⟨a',c',rfl,λi v hi=>?_⟩;rw[List.getElem?_drop] at hi;obtain⟨b,off,rfl,q0,q1,q2⟩:=hc (k+i) v hi;have hkl:k+i < l.length:=(zi.1 hi).1
 have hcap:l.length≤c:=by
  rcases h.2 with ⟨e,hn⟩|⟨g,cap,cur,e,_,_,hn,_⟩
  ·cases e
  cases e;exact hn
 have:=ha b off rfl zo;refine⟨b,off+k*3,this,?_,?_,?_⟩
 ·rw[show off+k*3+i*3=off+(k+i)*3 by omega];exact q0
 ·rw[show off+k*3+i*3+1=off+(k+i)*3+1 by omega];exact q1
 rw[show off+k*3+i*3+2=off+(k+i)*3+2 by omega];exact q2
theorem DR (h:jU w B (.slice a l.length c) l):l.length≤c∧c≤9223372036854775807∧(a=none→c=0)∧∀ad,a=some ad→∃g,ad=⟨g,0,none⟩:=by
 rcases h.2 with ⟨e,hn⟩|⟨g,cap,cur,e,_,_,hn,hm,_⟩
 ·injection e with e1 e2 e3;subst e1 e3;exact⟨by omega,by omega,λ_=>rfl,λad h=>by cases h⟩
 cases e;refine⟨hn,by unfold maxLen at hm;exact hm,λh=>gN,λad h=>⟨g,by cases h;rfl⟩⟩
theorem FJ (start:Int) (h:ZF w p S l) (hl:l.length≤65536) :
 Calls prog 152 #[jI p,.int .i64 start] w λr w'=>(InR start l.length∧∃v',r=.returned (.tuple #[v',.bool true])∧jU w' w.heap.size v' (l.drop start.toNat)∧jC w w')∨(¬InR start l.length∧r=.returned (.tuple #[.slice none 0 0,.bool false])∧w'=w):=by
 obtain⟨h0,v,h1,h2,h3⟩:=h;obtain⟨c0,c1⟩:=ZT h1;obtain⟨a,c,rfl,_⟩:=zI h2;obtain⟨hc1,hc2,hc3,hc4⟩:=DR h2;have H2:=zh h2;have HC:=zh hc4;clear h0 h1 h2 h3 hc4;by_cases hs:0≤start
 ·by_cases hle:start≤l.length
  ·obtain⟨k,rfl⟩:∃k:Nat,start=k:=⟨start.toNat,by omega⟩;have hk:k≤l.length:=by omega
   have HI:Hid (InR (k:Int) l.length):=⟨by omega,by omega⟩;have HK:=zh (show (l.drop k).length=l.length - k by simp);have HD:Hid (∀(a':Option Addr) (c':Nat),(∀b off,a=some ⟨b,off,none⟩→k < c→a'=some ⟨b,off+k*3,none⟩)→ValsAt w (.slice a' (l.length - k) c') (l.drop k)):=λa' c' ha=>by rw[← HK.out];exact FI H2.out k hk a' c' ha
   cases a with
   | none=>
    have hc0:=hc3 rfl;subst hc0;have hl0:l.length=0:=(by omega);have hk0:k=0:=(by omega);subst hk0;go_enter func152,ntmps152;go_wp2_with fail;refine (mM _ _ (l.drop 0) (by have:=HD.out none 0 (λb off e=>by cases e);rw[hl0] at this;exact this) (λc e=>by cases e;rfl) zp6).mono ?_;rintro r w' ⟨v',rfl,ho,hg⟩;have HO:=zh (qa ho hg);clear ho hg;go_wp2
    go_ret2
    exact .inl ⟨HI.out,v',rfl,HO.out⟩
   | some ad=>
    obtain⟨g,rfl⟩:=HC.out _ rfl
    have HCL:Hid (∀(a':Option Addr) (c':Nat),(∀b off,some (⟨g,0,none⟩:Addr)=some ⟨b,off,none⟩→k < c→a'=some ⟨b,off+k*3,none⟩)→(∀q,Value.slice a' (l.length - k) c'=.slice none 0 q→q=0)→Calls prog 199 #[.slice a' (l.length - k) c'] w λr w'=>∃v',r=.returned v'∧jU w' w.heap.size v' (l.drop k)∧jC w w'):=
     λa' c' ha hn=>mM w _ (l.drop k) (HD.out a' c' ha) hn zp6
    go_enter func152,ntmps152;go_wp2_with fail
    all_goals
     refine (HCL.out _ _ (λb off e hkc=>by first | omega | (cases e;simp;done) | (cases e;simp;omega)) (λq e=>by cases e)).mono ?_;rintro r w' ⟨v',rfl,ho,hg⟩;have HO:=zh (qa ho hg);clear ho hg;go_wp2
     go_ret2
     exact .inl ⟨HI.out,v',rfl,HO.out⟩
  have HI:Hid (¬InR start l.length):=λh=>hle h.2;go_enter func152,ntmps152;go_wp2
  go_ret2
  exact .inr ⟨HI.out,rfl,rfl⟩
 have HI:Hid (¬InR start l.length):=λh=>hs h.1;go_enter func152,ntmps152;go_wp2
 go_ret2
 exact .inr ⟨HI.out,rfl,rfl⟩
theorem fS (start:Int) (h:ZF w p S l) (hl:l.length≤65536) :
 Calls prog 95 #[jI p,.int .i64 start] w λr w'=>(InR start l.length∧∃v',r=.returned (.tuple #[v',.int .i64 0])∧jU w' w.heap.size v' (l.drop start.toNat)∧jC w w')∨(¬InR start l.length∧r=.returned (.tuple #[.slice none 0 0,.int .i64 140])∧w'=w):=by
 have HB:=zh h;obtain⟨h0,v,h1,h2,h3⟩:=h;obtain⟨c0,c1⟩:=ZT h1;clear h0 h1 h2 h3;go_enter func95,ntmps95;go_wp2_with fail;refine (bR HB.out).mono ?_;rintro r w' ⟨rfl,rfl⟩;go_wp2_with fail;refine (FJ start HB.out hl).mono ?_;rintro r w2 (⟨q1,v',rfl,ho,hg⟩|⟨hn,rfl,rfl⟩)
 ·have HO:=zh (qa q1 (qa ho hg));clear q1 ho hg;go_wp2
  go_ret2
  exact .inl ⟨HO.1,v',rfl,HO.2⟩
 have HN:=zh hn;clear hn;go_wp2
 go_ret2
 exact .inr ⟨HN.out,rfl,rfl⟩
theorem L4 (n:Nat) (h:ZF w p S l) (hl:l.length≤65536) (hn:n≤l.length) :
 Calls prog 136 #[jI p,.int .i64 n] w λr w'=>∃v',r=.returned (.tuple #[v',.int .i64 0])∧jU w' w.heap.size v' (l.drop (l.length - n))∧hZ p S (l.take (l.length - n)) w w':=by
 have HB:=zh h;go_enter func136,ntmps136;clear h;go_wp2_with fail;refine (xB HB.out).mono ?_;rintro r w' ⟨rfl,rfl⟩;obtain⟨m,hm⟩:∃m:Nat,l.length - n=m:=⟨_,rfl⟩;have hmi:(l.length:Int) - n=m:=by omega
 have HM:=zh hm;clear hm;go_wp2_with fail;refine (fS (m:Int) HB.out hl).mono ?_;rintro r w2 (⟨q1,v',rfl,ho,hg⟩|⟨hx,rfl,rfl⟩)
 ·have hb2:=HB.grew hg;rw[show ((m:Int)).toNat=m from rfl] at ho;obtain⟨h0,v,h1,h2,h3⟩:=hb2;have HST:Hid (jU w2 w'.heap.size v' (l.drop m)∧jC w' w2):=⟨ho,hg⟩;obtain⟨a2,c2,rfl,_⟩:=zI ho;obtain⟨c0,c1⟩:=ZT h1;obtain⟨a,c,rfl,_⟩:=zI h2;obtain⟨hc1,hc2,hc3,hc4⟩:=DR h2;have f0:=jE h1 0;have hmc:m≤c:=by omega
  have hmc2:(m:Int)≤c:=by omega
  have HF:Hid (hZ p S (l.take m) w2 (w2.setCell ⟨p,0,none⟩ (.slice a m c))∧jU (w2.setCell ⟨p,0,none⟩ (.slice a m c)) w'.heap.size (.slice a2 (l.drop m).length c2) (l.drop m)):=by
   have hne:(Value.slice a l.length c).ownBlock≠some p:=vL h2 h1 zd;have hm2:Moved (λk=>k=p) w2 (w2.setCell ⟨p,0,none⟩ (.slice a m c)):=zZ w2 p 0 _;have hh:(w2.setCell ⟨p,0,none⟩ (.slice a m c)).heap[p]? = some (.cells #[.slice a m c,.bool true] 167 (0,0)):=by have:=heap_setCell_same w2 p 0 _ _ (.slice a m c) h1;simpa using this
   have hob:(Value.slice a m c).ownBlock=(Value.slice a l.length c).ownBlock:=by cases a<;>rfl
   have hot:jU w2 0 (.slice a m c) (l.take m):=by
    have:=FG h2 m zo;rw[cD] at this;unfold jU;rw[qr,xy zo];exact this
   refine⟨⟨S,⟨h0,_,hh,hm2.owns hot (λk hk he=>hne (by rw[← hob,hk,he])),λg hg=>h3 g (by rw[← hob];exact hg)⟩,Y4.refl _ _ _,hm2.mono (λj _ hj=>hj ▸ h0)⟩,?_⟩;refine hm2.owns HST.1 (λk hk he=>?_);exact (vL HST.1 h1 zd) (by rw[hk,he])
  clear h0 h1 h2 h3 ho hg q1 hc1 hc3 hc4;go_wp2
  go_ret2
  rw[HM];refine⟨_,rfl,by have h:=HF.2;rw[xr] at h;exact h,?_⟩;obtain⟨S',k1,k2,k3⟩:=HF.1;exact⟨S',k1,λk hk=>(k2 k hk).imp id (λh=>⟨zf HST.2.size h.1,h.2⟩),(Moved.of_grew (S:=S) HST.2).trans' k3⟩
 exact absurd ⟨by omega,by omega⟩ hx
theorem L5 (w:World):Calls prog 71 #[] w λr w'=>r=.returned (jI w.heap.size)∧ZF w' w.heap.size (λk=>k=w.heap.size) []∧jC w w'∧w'.heap.size=w.heap.size+1:=by
 go_enter func71,ntmps71;go_wp2;go_ret;exact⟨rfl,⟨rfl,_,qc _ _,World.ownsRow_nil _ _ _ _,λg hg=>by cases hg⟩,(jC.refl w).alloc _,zm _ _⟩
end Go.Proofs.YtdjoffgkndncfaaGreat
namespace Go.Proofs.YtdjoffgkndncfaaGreat
open Go.Proofs.Tryz
open Go Go.ChangeShapes Go.WideShapes Go.ChangeAt Go.RowKit Go.Joins
open Ft (V3 vV okV ValsAt inlineB legalB packF codeF typedF allF)
end Go.Proofs.YtdjoffgkndncfaaGreat
namespace Go.Proofs.YtdjoffgkndncfaaGreat
open Go.Proofs.Tryz
open Go Go.ChangeShapes Go.WideShapes Go.ChangeAt Go.RowKit Go.Joins
open Ft (V3 vV okV ValsAt inlineB legalB packF codeF typedF allF allAt headF fitsL fitsV fitsF belowW isA)
variable {n x:Int} {k:V3} {l:List V3}
def iA (n:Int) (k:V3):Prop:=k.1=14∧isW k.2.1=true∧0≤k.2.2∧k.2.2≤n
theorem FK (hk:iA n k) (hl:∀v∈l,kG v=0):JX k l=0:=by
 unfold JX;rw[zl hk.1,zl hk.2.1]
 induction l with
 | nil=>rfl
 | cons v r ih=>
  show yK kG (if (0:Int)=0 then kG v else 0) r=0;rw[zl rfl,hl v zp2];exact ih λu hu=>hl u (by simp[hu])
theorem cZ (hk:iA n k):inlineB k.1=false:=by rw[hk.1];decide
theorem xC (hn:0≤n) (hn2:n≤1048576) (hl:l.length≤1048575) (h:∀v∈l,aN n v) (hk:iA n k) :
 allF l k n 3=Ft.leastOf (λv=>allAt l k n 3 v)∧allF l k n 3≠0∧isW (allF l k n 3)=true∧allAt l k n 3 (allF l k n 3)=true:=by
 have hA:isA 3:=by simp[isA]
 have e:allF l k n 3=Ft.leastOf (λv=>allAt l k n 3 v):=by
  unfold allF;rw[zl ⟨⟨hn,by omega⟩,hA,by omega⟩]
 have p8:(2:Int) ^ (8*(8:Int).toNat)=18446744073709551616:=by decide
 have h8:allAt l k n 3 8=true:=by
  unfold allAt;rw[fO l 3 h hn zo zo,Bool.and_true];unfold headF;have hb:belowW l.length 8=true:=by unfold belowW;rw[zp,p8];omega
  have hkf:fitsV k n 0 8=true:=by
   unfold fitsV fitsF;rw[cZ hk];simp only[Bool.false_eq_true,if_false,zg,zp,belowW,p8];obtain⟨_,_,h0,h1⟩:=hk;exact⟨h1,by omega⟩
  rw[hb,hkf];simp
 have h0:allF l k n 3≠0:=by rw[e];exact cW h8
 refine⟨e,h0,Q3 h0,?_⟩;have:=QO (p:=λv=>allAt l k n 3 v) (by rw[← e];exact h0);rw[← e] at this;exact this
def KQ (x:Int) (k:V3) (b:List UInt8) (l:List V3):List (List UInt8):=
 kD (j8 b x)::k8 x.toNat ((b.length:Int)+j8 b x - k.2.2).toNat::k8 x.toNat k.2.1.toNat::k8 x.toNat l.length::(QA x ((b.length:Int)+j8 b x+3*x) l++l.map λv=>[KE x v])
def lenM (x:Int) (b:List UInt8) (l:List V3):Int:=b.length+j8 b x+3*x+x*l.length+l.length
theorem aO (hx:isW x=true) (k:V3) (b:List UInt8) (l:List V3):(b.length:Int)+(KQ x k b l).flatten.length=lenM x b l:=by
 have h1:=Z8 hx l ((b.length:Int)+j8 b x+3*x);have h2:=g9 x l;have hp:=zA hx;unfold KQ lenM;simp only[List.flatten_append,List.flatten_cons,zb,jT,kF] at h1⊢;omega
theorem lenM_le (hx:isW x=true) (b:List UInt8) (l:List V3):lenM x b l≤b.length+31+9*l.length:=by
 have hw:=zA hx;have hp:=(dL (l:=b) hx).1;have hm:x*(l.length:Int)≤8*l.length:=Int.mul_le_mul_of_nonneg_right hw.2 zo;unfold lenM;omega
theorem xD (hx:isW x=true) (hk:iA n k) (h:allAt l k n 3 x=true) :
 (l.length:Int) < 2 ^ (8*x.toNat)∧(0≤(n+x - 1) / x*x - k.2.2∧(n+x - 1) / x*x - k.2.2 < 2 ^ (8*x.toNat))∧fitsL l n 3 x=true:=by
 unfold allAt headF at h;simp only[zg,qv,belowW,zp] at h;obtain⟨⟨h1,h2⟩,h3⟩:=h;have h4:fitsV k n 0 x=true:=by simpa using h2
 unfold fitsV fitsF at h4;rw[cZ hk] at h4;simp only[Bool.false_eq_true,if_false,zg,zp,belowW,Int.zero_mul,Int.add_zero] at h4;have hge:n≤(n+x - 1) / x*x:=by rcases zW hx with rfl | rfl | rfl | rfl<;>omega
 exact⟨by simpa using h1,⟨by omega,h4.2⟩,h3⟩
theorem putM_ok {jB:Int} {b:List UInt8} (hb:b.length≤1048576) (hl:l.length≤1048575) (h:∀v∈l,aN b.length v) (hk:iA b.length k) (hx:allF l k b.length 3=x) (hr:lenM x b l≤jB) :
 J4 jB k l (b,0)=(((9,x,(b.length:Int)+j8 b x+3*x),0),(b++(KQ x k b l).flatten,0)):=by
 obtain⟨_,x0,hw,qG⟩:=xC (n:=b.length) zo zo hl h hk;rw[hx] at x0 hw qG;have hwp:=zA hw;have hpe:=cV hw b;obtain⟨kE,hko,hfit⟩:=xD hw hk qG;rw[← hpe] at hko
 have hk8:k.2.1 < 2 ^ (8*x.toNat):=by
  have h1:=zA hk.2.1;have h2:(256:Int)≤2 ^ (8*x.toNat):=by rcases zW hw with rfl | rfl | rfl | rfl<;>decide
  omega
 have hfe:fitE x ((b.length:Int)+j8 b x+3*x) l:=eI hw l 3 _ (by rw[hpe]) zo hfit;have hpl:=aO hw k b l;have hmul:0≤x*(l.length:Int):=Int.mul_nonneg zo zo;have hkn:¬inlineB k.1=true:=by rw[cZ hk];decide
 unfold J4;rw[ze (by rw[FK hk (B9 h)];simp)];simp only[hx];rw[ze x0]
 have e1:jL jB x (b,0)=(b++kD (j8 b x),0):=by
  unfold jL;rw[zl hw];exact J1 _ _ _ (by rw[jT];show (b.length:Int)+(j8 b x:Nat)≤jB;unfold lenM at hr;omega)
 have hl1:((b++kD (j8 b x)).length:Int)=(b.length:Int)+j8 b x:=by rw[zb,jT];omega
 have e2:qP jB x (jL jB x (b,0)) k=(b++kD (j8 b x)++k8 x.toNat ((b.length:Int)+j8 b x - k.2.2).toNat,0):=by
  rw[e1,pQ hw (by unfold YM;rw[ze hkn,hl1];exact hko)];unfold YM;rw[ze hkn,hl1];exact J1 _ _ _ zp13
 have e3:KI jB x k l.length (b,0)=(b++kD (j8 b x)++k8 x.toNat ((b.length:Int)+j8 b x - k.2.2).toNat++k8 x.toNat k.2.1.toNat++k8 x.toNat l.length,0):=by
  unfold KI;rw[e2,Z7 hw hk8,J1 _ _ _ zp13,Z7 hw kE];exact J1 _ _ _ zp13
 have hl3:((b++kD (j8 b x)++k8 x.toNat ((b.length:Int)+j8 b x - k.2.2).toNat++k8 x.toNat k.2.1.toNat++k8 x.toNat l.length).length:Int)=(b.length:Int)+j8 b x+3*x:=by
  simp only[zb,kF,jT];omega
 have e4:z6 jB x l (jY jB x l (KI jB x k l.length (b,0)))=(b++(KQ x k b l).flatten,0):=by
  rw[e3,VN hw l _ (by rw[hl3];exact hfe),hl3,aM,← YL]
  have hfl:(b++kD (j8 b x)++k8 x.toNat ((b.length:Int)+j8 b x - k.2.2).toNat++k8 x.toNat k.2.1.toNat++k8 x.toNat l.length)++(QA x ((b.length:Int)+j8 b x+3*x) l++l.map λv=>[KE x v]).flatten=b++(KQ x k b l).flatten:=by
   unfold KQ;simp only[List.flatten_cons,qe]
  rw[YR _ _ (by rw[← Int.natCast_add,← zb,hfl,zb];omega),hfl]
 rw[e4,e3];simp only[ne_eq,not_true_eq_false,if_false];rw[hl3]
end Go.Proofs.YtdjoffgkndncfaaGreat
namespace Go.Proofs.YtdjoffgkndncfaaGreat
open Go.Proofs.Tryz
open Go Go.ChangeShapes Go.WideShapes Go.ChangeAt Go.RowKit Go.Joins
open Ft (V3 vV okV ValsAt inlineB legalB packF codeF typedF allF allAt headF fitsL fitsV fitsF belowW isA unpackF)
variable {x:Int}
structure HeldM (x p:Int) (k:V3) (b X:List UInt8) (l:List V3):Prop where
 head:X.take b.length=b
 len:(X.length:Int)=p+x*l.length+l.length
 off:k7 X (p - 3*x) x=(p - 3*x - k.2.2,0)
 wide:k7 X (p - 2*x) x=(k.2.1,0)
 many:k7 X (p - x) x=((l.length:Int),0)
 elem:∀(j:Nat) (v:V3),l[j]? = some v→k7 X (p+j*x) x=(YM x (p+j*x) v,0)
 tag:∀(j:Nat) (v:V3),l[j]? = some v→X[(p+l.length*x).toNat+j]? = some (KE x v)
theorem heldM {b:List UInt8} {k:V3} {l:List V3} {p:Int} (hn:b.length≤1048576) (hl:l.length≤1048575) (h:∀v∈l,aN b.length v) (hk:iA b.length k) (hx:allF l k b.length 3=x) (hp:(b.length:Int)+j8 b x+3*x=p) :
 isW x=true∧HeldM x p k b (b++(KQ x k b l).flatten) l∧(p - 3*x) % x=0∧(b.length:Int)≤p - 3*x∧p - 3*x < b.length+x∧(∀v∈l,inlineB v.1=true→v.2.1≤x)∧k.2.2≤p - 3*x:=by
 obtain⟨_,x0,hw,qG⟩:=xC (n:=b.length) zo zo hl h hk;rw[hx] at hw qG;have hwp:=zA hw;obtain⟨kE,hko,hfit⟩:=xD hw hk qG;have hpad:=dL (l:=b) hw;have hpe:=cV hw b;rw[← hpe] at hko
 have hk8:k.2.1 < 2 ^ (8*x.toNat):=by
  have h1:=zA hk.2.1;have h2:(256:Int)≤2 ^ (8*x.toNat):=by rcases zW hw with rfl | rfl | rfl | rfl<;>decide
  omega
 have hkp:=zA hk.2.1;have hfe:fitE x p l:=eI hw l 3 p (by rw[← hp,hpe]) zo hfit;have hEl:=Z8 hw l p
 have hpieces:(KQ x k b l).flatten=kD (j8 b x)++k8 x.toNat (p - 3*x - k.2.2).toNat++k8 x.toNat k.2.1.toNat++k8 x.toNat l.length++(QA x p l).flatten++l.map (KE x):=by
  unfold KQ;rw[hp,show (b.length:Int)+j8 b x - k.2.2=p - 3*x - k.2.2 by omega];simp[eJ]
 rw[hpieces];clear hpieces qG;refine⟨hw,⟨?_,?_,?_,?_,?_,?_,?_⟩,?_,?_,?_,?_,?_⟩
 ·simp only[qe];exact List.take_left' rfl
 ·simp only[zb,jT,kF,qb] at hEl⊢;omega
 ·refine ZE (A:=b++kD (j8 b x)) (C:=k8 x.toNat k.2.1.toNat++k8 x.toNat l.length++(QA x p l).flatten++l.map (KE x)) hw ?_ ?_ zo zo
  ·simp only[qe]
  rw[zb,jT];omega
 ·refine ZE (A:=b++kD (j8 b x)++k8 x.toNat (p - 3*x - k.2.2).toNat) (C:=k8 x.toNat l.length++(QA x p l).flatten++l.map (KE x)) hw ?_ ?_ zo hk8
  ·simp only[qe]
  simp only[zb,jT,kF];omega
 ·refine ZE (A:=b++kD (j8 b x)++k8 x.toNat (p - 3*x - k.2.2).toNat++k8 x.toNat k.2.1.toNat) (C:=(QA x p l).flatten++l.map (KE x)) hw ?_ ?_ zo kE
  ·simp only[qe,Int.toNat_natCast]
  simp only[zb,jT,kF];omega
 ·intro j v hj;obtain⟨A,C,hA,hAk⟩:=tA hw l p j v hj;have hb:=mK l p j v hfe hj;refine ZE (A:=b++kD (j8 b x)++k8 x.toNat (p - 3*x - k.2.2).toNat++k8 x.toNat k.2.1.toNat++k8 x.toNat l.length++A) (C:=C++l.map (KE x)) hw ?_ ?_ hb.1 hb.2
  ·rw[hA];simp only[qe]
  simp only[zb,jT,kF];omega
 ·intro j v hj
  have hXl:(b++(kD (j8 b x)++k8 x.toNat (p - 3*x - k.2.2).toNat++k8 x.toNat k.2.1.toNat++k8 x.toNat l.length++(QA x p l).flatten)).length=(p+l.length*x).toNat:=by
   have:(l.length:Int)*x=x*l.length:=Int.mul_comm _ _;simp only[zb,jT,kF] at hEl⊢;omega
  rw[← qe,← hXl,qs zo,Nat.add_sub_cancel_left,xj,hj];rfl
 ·have:p - 3*x=((b.length:Int)+x - 1) / x*x:=by rw[← hp,← hpe];omega
  rw[this];exact Int.mul_emod_left _ _
 ·omega
 ·omega
 ·intro v hv hi;obtain⟨j,hj,hjv⟩:=List.getElem_of_mem hv;have:=fQ l _ _ x j v hfit (by rw[za hj,hjv]);unfold fitsV fitsF at this;rw[zl hi] at this;exact xo this
 omega
theorem ZU {X Z:List UInt8} {at_ u:Int} (h:k7 X at_ x=(u,0)):k7 (X++Z) at_ x=(u,0):=by
 unfold k7 at h⊢;by_cases hw:isW x=true
 ·have hp:=zA hw;rw[zl hw] at h⊢;by_cases hb:(at_ < 0∨at_ > X.length - x)
  ·rw[zl hb] at h;simp at h
  rw[ze hb] at h;rw[ze (by rw[zb];omega)];rw[List.drop_append_of_le_length zo,yd (by rw[xr];omega)];exact h
 rw[ze hw] at h;simp at h
end Go.Proofs.YtdjoffgkndncfaaGreat
