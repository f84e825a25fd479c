/-Texts-/
import Derived.Test.YtdjoffgkndncfaaGreatDOtherPBB
import Derived.Test.YtdjoffgkndncfaaGreatDOtherPBE
import Derived.Test.YtdjoffgkndncfaaGreatDOtherPBF
set_option linter.unusedVariables false
set_option linter.unusedSimpArgs false
set_option maxHeartbeats 8000000
set_option maxRecDepth 100000
namespace Go.Proofs.YtdjoffgkndncfaaGreat
open Go.Proofs.Tryz
open Go Go.ChangeShapes Go.WideShapes Go.ChangeAt Go.RowKit Go.Joins
open Ft (V3 vV okV ValsAt inlineB legalB packF)
variable {x jB:Int}
def kG (v:V3):Int:=if legalB v.1 then (if inlineB v.1 then 0 else if isW v.2.1 then 0 else 2) else 20
theorem cT (v:V3) (w:World):Calls prog 255 #[vV v] w λr w'=>r=.returned (.int .i64 (kG v))∧jC w w':=by
 obtain⟨ty,wd,n⟩:=v;have H0:Hid (jC w (w.alloc (.cells #[.int .i64 ty,.int .i64 wd,.int .u64 n] 135))):=(jC.refl w).alloc _;have h0:(w.alloc (.cells #[.int .i64 ty,.int .i64 wd,.int .u64 n] 135)).cell? ⟨w.heap.size,0,none⟩=some (.int .i64 ty):=by go_simp
 have HC:=zh h0;clear h0;show Calls prog 255 #[.agg #[.int .i64 ty,.int .i64 wd,.int .u64 n]] w _;by_cases hl:legalB ty=true
 ·by_cases hi:inlineB ty=true
  ·have HE:Hid (kG (ty,wd,n)=0):=by show _=_;simp[kG,hl,hi]
   by_cases hw:isW wd=true
   all_goals
   go_enter func255,ntmps255;go_wp2_with fail
   first | refine (QS wd _ hw).mono ?_ | refine (bI wd _ (by simpa using hw)).mono ?_
   rintro r w' ⟨⟨c,rfl⟩,rfl⟩;go_wp2_with fail;refine (Ft.legal_any ty _).mono ?_;rw[hl];rintro r w1 ⟨rfl,hg⟩;have c0:=hg.cell HC.out;have HG:=zh (H0.trans hg);clear hg;go_wp2_with fail;refine (Ft.inline_any ty _).mono ?_;rw[hi];rintro r w2 ⟨rfl,hg⟩;have HG2:=zh (HG.trans hg);clear hg;go_wp2;go_ret;exact⟨by rw[HE];rfl,HG2.out⟩
  have hi':inlineB ty=false:=by simpa using hi
  by_cases hw:isW wd=true
  ·have HE:Hid (kG (ty,wd,n)=0):=(by show _=_;simp[kG,hl,hi',hw]);go_enter func255,ntmps255;go_wp2_with fail;refine (QS wd _ hw).mono ?_;rintro r w' ⟨⟨c,rfl⟩,rfl⟩;go_wp2_with fail;refine (Ft.legal_any ty _).mono ?_;rw[hl];rintro r w1 ⟨rfl,hg⟩;have c0:=hg.cell HC.out;have HG:=zh (H0.trans hg);clear hg;go_wp2_with fail;refine (Ft.inline_any ty _).mono ?_;rw[hi'];rintro r w2 ⟨rfl,hg⟩;have HG2:=zh (HG.trans hg);clear hg;go_wp2;go_ret;exact⟨by rw[HE];rfl,HG2.out⟩
  have HE:Hid (kG (ty,wd,n)=2):=(by show _=_;simp[kG,hl,hi',hw]);go_enter func255,ntmps255;go_wp2_with fail;refine (bI wd _ (by simpa using hw)).mono ?_;rintro r w' ⟨⟨c,rfl⟩,rfl⟩;go_wp2_with fail;refine (Ft.legal_any ty _).mono ?_;rw[hl];rintro r w1 ⟨rfl,hg⟩;have c0:=hg.cell HC.out;have HG:=zh (H0.trans hg);clear hg;go_wp2_with fail;refine (Ft.inline_any ty _).mono ?_;rw[hi'];rintro r w2 ⟨rfl,hg⟩;have HG2:=zh (HG.trans hg);clear hg;go_wp2;go_ret;exact⟨by rw[HE];rfl,HG2.out⟩
 have hl':legalB ty=false:=by simpa using hl
 have HE:Hid (kG (ty,wd,n)=20):=by show _=_;simp[kG,hl']
 by_cases hw:isW wd=true
 all_goals
  go_enter func255,ntmps255;go_wp2_with fail
  first | refine (QS wd _ hw).mono ?_ | refine (bI wd _ (by simpa using hw)).mono ?_
  rintro r w' ⟨⟨c,rfl⟩,rfl⟩;go_wp2_with fail;refine (Ft.legal_any ty _).mono ?_;rw[hl'];rintro r w1 ⟨rfl,hg⟩;have HG:=zh (H0.trans hg);clear hg;go_wp2;go_ret;exact⟨by rw[HE];rfl,HG.out⟩
def yD (n:Int) (x:Int):Int:=n % 2 ^ (8*x.toNat)
theorem low_any (n x:Int) (w:World) (hx:isW x=true) (n0:0≤n) (n1:n≤18446744073709551615):Calls prog 261 #[.int .u64 n,.int .i64 x] w λr w'=>r=.returned (.int .u64 (yD n x))∧w'=w:=by
 rcases zW hx with rfl|rfl|rfl|rfl
 all_goals
  clear hx;go_enter func261,ntmps261;go_wp2;go_ret;refine⟨K5 ?_,rfl⟩;unfold yD
  first
   | (show n=_;rw[Int.emod_eq_of_lt n0 zp6])
   | (show IntKind.u64.wrap _ / _=_
      simp[IntKind.wrap,IntKind.bits,IntKind.signed]
      omega)
theorem VJ {n:Int} (n0:0≤n) (n1:n≤18446744073709551615):0≤yD n x∧yD n x≤18446744073709551615:=by
 unfold yD;have hp:(0:Int) < 2 ^ (8*x.toNat):=Int.pow_pos zd;exact⟨xg _ zo,by have h1:=Int.emod_add_mul_ediv n (2 ^ (8*x.toNat));have h2:=Int.mul_nonneg (Int.le_of_lt hp) (Int.ediv_nonneg n0 (Int.le_of_lt hp));omega⟩
theorem wV (x:Int):0≤IntKind.u64.wrap x:=by simp[IntKind.wrap,IntKind.bits,IntKind.signed];omega
theorem wW (x:Int):IntKind.u64.wrap x≤18446744073709551615:=by simp[IntKind.wrap,IntKind.bits,IntKind.signed];omega
def qP (jB x:Int) (s:St) (v:V3):St:=if inlineB v.1 then j9 jB x (yD v.2.2 x) s else j9 jB x (IntKind.u64.wrap ((s.1.length:Int) - v.2.2)) s
def jY (jB x:Int) (l:List V3) (s:St):St:=l.foldl (qP jB x) s
theorem eF {v:V3} {s:St} (h:(s.1.length:Int)≤jB):((qP jB x s v).1.length:Int)≤jB:=by
 unfold qP;split
 ·exact qV h
 exact qV h
theorem KX {jB x:Int}:∀(l:List V3) {s:St},(s.1.length:Int)≤jB→((jY jB x l s).1.length:Int)≤jB
 | [],s,h=>h
 | v::r,s,h=>KX r (eF (v:=v) h)
theorem gX (jB x:Int) (l:List V3) (s:St) (k:Nat) (h:k < l.length):jY jB x (l.take (k+1)) s=qP jB x (jY jB x (l.take k) s) l[k]:=by
 unfold jY;rw[List.take_succ_eq_append_getElem h,List.foldl_append];rfl
theorem VK {B:Nat} {w:World} {p:Nat} {o:Option Nat} (s:St) (x:Int) (lv:Value) (l:List V3) (hx:isW x=true) (h:yA B w p o s.1 jB s.2) (hB:B≤w.heap.size) (hl:(s.1.length:Int)≤jB) (hm1:jB≤1048576)
 (hv:ValsAt w lv l) (kE:l.length≤1048576) (hok:∀v∈l,okV v) (hap:∀ad n c,lv=.slice (some ad) n c→¬KL p o ad.block) :
 Calls prog 230 #[jI p,.int .i64 x,lv] w λr w'=>r=.returned (.tuple #[])∧kO B w w' p o jB (jY jB x l s):=by
 have HB0:=zh h;have HX:=zh hx;have HA:=zh hap;have HOK:=zh hok;obtain⟨a,c,rfl,kM⟩:=hv;have HC:=zh kM;clear h hx hap hok kM;go_enter func230,ntmps230;go_wp2_with fail
 go_loopw [7,10] (λ_ i wr=>∃k:Nat,k≤l.length∧i=.int .i64 k∧Hid (kO B w wr p o jB (jY jB x (l.take k) s))) (λ_ i _=>l.length - (intOf i).toNat)
 case atStart=>exact⟨0,Nat.zero_le _,rfl,kO.refl HB0.out⟩
 case round=>
  obtain⟨k,hk,rfl,HW⟩:=hrel;by_cases hlt:k < l.length
  ·obtain⟨bl,off,rfl,q0,q1,q2⟩:=HC.out k l[k] (za hlt);have hnb:¬KL p o bl:=HA.out ⟨bl,off,none⟩ _ _ rfl;obtain⟨o1,k1,k2,k3⟩:=HW.out;have d0:=k3.cell q0 hnb;have d1:=k3.cell q1 hnb;have d2:=k3.cell q2 hnb;have HSN:=zh (gX jB x l s k hlt);have hv:=HOK.out l[k] (xq hlt);have HLE:=zh (KX (x:=x) (l.take k) hl);have hBr:B≤wr.heap.size:=zf hB k3.size;have HBR:=zh hBr;have HB1:=zh k1;have HK:=zh (qa k2 k3);generalize jY jB x (l.take k) s=s0 at *;generalize l[k]=v at *;obtain⟨ty,wd,vn⟩:=v;simp only at d0 d1 d2;have hvn:=hv;obtain⟨n0,n1⟩:=hv;clear k1 k2 k3 q0 q1 q2 HW hBr hvn;simp only at n0 n1;by_cases hi:inlineB ty=true
   ·go_wp2_with fail;refine (Ft.inline_any ty _).mono ?_;rw[hi];rintro r w1 ⟨rfl,hg⟩;have HEL:Hid (qP jB x s0 (ty,wd,vn)=j9 jB x (yD vn x) s0):=(by show _=_;simp[qP,hi]);have cn:w1.cell? ⟨wr.heap.size,2,none⟩=some (.int .u64 vn):=hg.cell zp3;have HG2:=zh (((jC.refl wr).alloc _).trans hg);clear hg hi;go_wp2_with fail;refine (low_any vn x _ HX.out n0 n1).mono ?_;rintro r w2 ⟨rfl,rfl⟩;go_wp2_with fail;refine (JF s0 x (yD vn x) (HB1.grew HG2.out) (zf HBR.out HG2.size) HLE.out hm1 (VJ n0 n1).1 (VJ n0 n1).2).mono ?_;rintro r w5 ⟨rfl,ht⟩;have HT:=zh (kO.after HG2.out ht);clear ht;go_wp2;go_roundw
    case rel=>
     have hT:=HT.out;rw[← HEL.out,← HSN.out] at hT;obtain⟨o2,t1,t2,t3⟩:=hT;exact⟨k+1,by omega,by go_num,o2,t1,HK.1.trans t2 HK.2.size,HK.2.own HK.1 t3⟩
    case measure=>simp[intOf];omega
   have hi':inlineB ty=false:=(by simpa using hi);have HEL:Hid (qP jB x s0 (ty,wd,vn)=j9 jB x (IntKind.u64.wrap ((s0.1.length:Int) - vn)) s0):=(by show _=_;simp[qP,hi']);go_wp2_with fail;refine (Ft.inline_any ty _).mono ?_;rw[hi'];rintro r w1 ⟨rfl,hg⟩;have cn:w1.cell? ⟨wr.heap.size,2,none⟩=some (.int .u64 vn):=hg.cell zp3;have HG2:=zh (((jC.refl wr).alloc _).trans hg);have HB:=zh (HB1.grew HG2.out);have HBS:=zh (zf HBR.out HG2.size);have hs0:s0.1.length≤1048576:=(by have:=HLE.out;omega);have hwl:IntKind.u64.wrap (s0.1.length:Int)=(s0.1.length:Int):=(by simp[IntKind.wrap,IntKind.bits,IntKind.signed];omega);clear hg hi hi';go_wp2_with fail;refine vG jC [[],[],[],[2],[3],[],[5],[4,6],[0,1,7]] [[(25,1),(26,2),(27,3),(28,4),(29,5),(30,6),(31,7)],[(24,0),(26,2),(27,3),(28,4),(29,5),(30,6),(31,7)],[(24,0),(25,1),(28,4),(29,5),(30,6),(31,7),(32,8)],[(24,0),(25,1),(26,2),(29,5),(30,6),(31,7),(32,8)],[(24,0),(25,1),(26,2),(27,3),(29,5),(30,6),(32,8)],[(24,0),(25,1),(26,2),(27,3),(28,4),(31,7),(32,8)],[(24,0),(25,1),(26,2),(27,3),(28,4),(29,5),(32,8)],[(24,0),(25,1),(26,2),(27,3),(28,4),(29,5),(30,6)],[(24,0),(25,1),(26,2),(27,3),(28,4),(29,5),(30,6),(31,7)]]
    [Is (jI p),Is (.int .i64 x),Is (jI p),Is (.int .i64 (s0.1.length:Int)),Is (.int .u64 (s0.1.length:Int)),Is (.pointer (some ⟨wr.heap.size,2,none⟩)),Is (.int .u64 vn),Is (.int .u64 (IntKind.u64.wrap ((s0.1.length:Int) - vn)))]
    zk jC.trans jC.refl (jC.refl _).drew zk ⟨jJ,jJ,jJ,jJ,jJ,jJ,jJ,jJ,trivial⟩ rfl ⟨?_,?_,?_,?_,?_,?_,?_,?_,trivial⟩ ?_ rfl
   ·exact zst
   ·exact zst
   ·exact zst
   ·exact zb42
   ·exact zst
   ·exact zst
   ·intro y w2 hG hD K hK;have dcn:=hG.cell cn;exact zsr
   ·exact zst
   intro y w2 hG hF K hK;simp only[zV,Is,and_true,Nat.reduceAdd] at hF;simp only[JS];simp only[jF,Act.put,zq,Is] at hK⊢;simp only[hF];clear hF;refine jN ?_;go_simp;refine (JF s0 x (IntKind.u64.wrap ((s0.1.length:Int) - vn)) (HB.grew hG) (zf HBS.out hG.size) HLE.out hm1 (wV _) (wW _)).mono ?_;rintro r w5 ⟨rfl,ht⟩;refine hK _ _ ?_;have HT:=zh (kO.after HG2.out (kO.after hG ht));clear ht;go_wp2;go_roundw
   case rel=>
    have hT:=HT.out;rw[← HEL.out,← HSN.out] at hT;obtain⟨o2,t1,t2,t3⟩:=hT;exact⟨k+1,by omega,by go_num,o2,t1,HK.1.trans t2 HK.2.size,HK.2.own HK.1 t3⟩
   case measure=>simp[intOf];omega
  have e:k=l.length:=by omega
  have HF:Hid (kO B w wr p o jB (jY jB x l s)):=by
   have:=HW.out;rw[e,qn] at this;exact this
  clear HW;go_wp2;go_end0;exact⟨rfl,HF.out⟩
end Go.Proofs.YtdjoffgkndncfaaGreat
