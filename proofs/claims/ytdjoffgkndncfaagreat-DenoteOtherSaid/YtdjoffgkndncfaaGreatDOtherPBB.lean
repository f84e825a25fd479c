/-Texts-/
import Derived.Test.YtdjoffgkndncfaaGreatDOtherPAZ
import Derived.Test.YtdjoffgkndncfaaGreatDOtherPBA
set_option linter.unusedVariables false
set_option linter.unusedSimpArgs false
set_option maxHeartbeats 4000000
set_option maxRecDepth 100000
namespace Go.Proofs.YtdjoffgkndncfaaGreat
open Go.Proofs.Tryz
open Go Go.ChangeShapes Go.WideShapes Go.ChangeAt Go.RowKit Go.Joins
variable {o:Option Nat} {a:Act} {K:Act→World→Prop} {Q:Exit→Act→World→Prop} {B p:Nat} {w:World} {jB:Int}
theorem B3 (w:World) (n:Nat) (hn:n≤1099511627776) :
 ∃w',(Instr.makeSlice 28 (.int .i64 (n:Int)) (.int .i64 (n:Int))).run prog w=.ok (.slice (some ⟨w.heap.size,0,none⟩) n n) w'∧zK w' (.slice (some ⟨w.heap.size,0,none⟩) n n) (kD n)∧jC w w':=by
 obtain⟨i0,hi,hz0,hz1,hz2⟩:=cI;obtain⟨w',hr,ho,hg⟩:=run_make_full (P:=prog) w w.heap.size 28 5 i0 (.int .u8 0) 1 underlying28 hi hz0 hz1 .i64 .i64 n (by rw[hz2];omega) gM (zr _);refine⟨w',hr,?_,⟨hg.os,hg.tape,hg.output,hg.size,λk hk=>hg.block k hk zp2⟩⟩
 have e:(madeCells (Value.int .u8 0).cells (n*1)).toList=Lib.byteCells (kD n):=by
  show (madeCells #[Value.int .u8 0] (n*1)).toList=_;rw[Nat.mul_one,toList_madeCells_one];simp[Lib.byteCells,kD]
 rw[e] at ho;have e2:(kD n).length=n:=jT n;have:=zK.of_own (l:=kD n) (v:=.slice (some ⟨w.heap.size,0,none⟩) n n) (w:=w') (B:=w.heap.size) (t:=5) (by rw[e2];exact ho);exact this
theorem wS {P:Program} (w:World) {o:Oper} (t:TypeId) (l c:Operand)
 (ho:o.op=.makeSlice t l c) (vl vc:Value) (hl:a.eval l=vl) (hc:a.eval c=vc) (v':Value) (w':World) (hr:(Instr.makeSlice t vl vc).run P w=.ok v' w') (h:K (a.put o.dst v') w'):o.wp P a w K Q:=by
 unfold Oper.wp execOp;simp only[ho,Sem.run_bind,Sem.run_pure,Result.andThen_ok,hl,hc,hr,Sem.run_map,Functor.map];exact h
theorem oE {o:Oper} (w:World) (l c:Operand) (ho:o.op=.makeSlice 28 l c) (n:Nat) (hl:a.eval l=.int .i64 n) (hc:a.eval c=.int .i64 n) (hn:n≤1099511627776)
 (h:∀v w',zK w' v (kD n)→jC w w'→K (a.put o.dst v) w'):o.wp prog a w K Q:=by
 obtain⟨w3,hr,hv,hg⟩:=B3 w n hn;exact wS w _ _ _ ho _ _ hl hc _ _ hr (h _ _ hv hg)
theorem B4 (s:St) (x:Int) (a b:Addr) (ca:w.cell? a=some (jI p)) (cb:w.cell? b=some (.int .i64 x))
 (h:yA B w p o s.1 jB s.2) (hB:B≤w.heap.size) (hl:(s.1.length:Int)≤jB) (hm1:jB≤1048576) (hx:isW x=true) :
 Calls prog 159 #[.pointer (some a),.pointer (some b)] w λr w'=>r=.returned (.tuple #[])∧kO B w w' p o jB (jL jB x s):=by
 have HB:=zh h;have HX:=zh hx;have hx8:1≤x∧x≤8:=by rcases zW hx with rfl | rfl | rfl | rfl<;>decide
 obtain⟨x0,x1⟩:=hx8;have hp:=dL (l:=s.1) hx;have hm0:0≤(s.1.length:Int) % x:=xg _ zo;have hm2:(s.1.length:Int) % x < x:=xd _ zo;have HP:=zh hp;have hp1:=hp.1;clear h hx hp;have e1:((s.1.length:Int)).tmod x=(s.1.length:Int) % x:=Int.tmod_eq_emod_of_nonneg zo;have e2:(x - (s.1.length:Int) % x).tmod x=(j8 s.1 x:Int):=by rw[Int.tmod_eq_emod_of_nonneg zo];exact HP.2.symm
 have e3:IntKind.i64.wrap (x - (s.1.length:Int) % x)=x - (s.1.length:Int) % x:=by rw[zy];omega
 have hx0:¬(x=0):=by omega
 go_enter func159,ntmps159;refine vG jC [[],[],[],[2],[],[3,4],[1,5],[],[6,7],[8],[0,9]] [[(3,1),(4,2),(5,3),(6,4),(7,5),(8,6),(9,7),(10,8),(11,9)],[(2,0),(4,2),(5,3),(6,4),(7,5),(9,7),(10,8),(11,9),(12,10)],[(2,0),(3,1),(6,4),(7,5),(8,6),(9,7),(10,8),(11,9),(12,10)],[(2,0),(3,1),(4,2),(6,4),(8,6),(9,7),(10,8),(11,9),(12,10)],[(2,0),(3,1),(4,2),(5,3),(8,6),(9,7),(10,8),(11,9),(12,10)],[(2,0),(3,1),(4,2),(5,3),(6,4),(9,7),(10,8),(11,9),(12,10)],[(2,0),(3,1),(4,2),(5,3),(6,4),(7,5),(9,7),(11,9),(12,10)],[(2,0),(3,1),(4,2),(5,3),(6,4),(7,5),(8,6),(11,9),(12,10)],[(2,0),(3,1),(4,2),(5,3),(6,4),(7,5),(8,6),(9,7),(12,10)],[(2,0),(3,1),(4,2),(5,3),(6,4),(7,5),(8,6),(9,7),(10,8)],[(2,0),(3,1),(4,2),(5,3),(6,4),(7,5),(8,6),(9,7),(10,8),(11,9)]]
  [Is (jI p),Is (.int .i64 x),Is (jI p),Is (.int .i64 (s.1.length:Int)),Is (.int .i64 x),Is (.int .i64 ((s.1.length:Int) % x)),Is (.int .i64 (x - (s.1.length:Int) % x)),Is (.int .i64 x),Is (.int .i64 (j8 s.1 x:Int)),λv w=>zK w v (kD (j8 s.1 x))]
  zk jC.trans jC.refl (jC.refl _).drew zk ⟨jJ,jJ,jJ,jJ,jJ,jJ,jJ,jJ,jJ,λ_ _ _ hr h=>zK.grew h hr,trivial⟩ rfl ⟨?_,?_,?_,?_,?_,?_,?_,?_,?_,?_,trivial⟩ ?_ rfl
 ·exact zb41
 ·exact zb41
 ·exact zb41
 ·exact zb42
 ·exact zb41
 ·exact zst
 ·exact zst
 ·exact zb41
 ·exact zst
 ·intro y w2 hG hD K hK;simp only[kC,zq4,zq5,Is,and_true] at hD;simp only[jF,Act.put,zq,Is] at hK⊢;simp only[hD] at hK⊢;clear hD;refine jN ?_;refine oE w2 _ _ rfl (j8 s.1 x) rfl rfl zo ?_;intro v w3 hv hg;exact hK _ _ _ rfl hg hv
 intro y w2 hG hF K hK;simp only[zV,Is,and_true,Nat.reduceAdd] at hF;have h9:=hF.2.2.2.2.2.2.2.2.2;simp only[JS];simp only[jF,Act.put,zq,Is] at hK⊢;simp only[hF];clear hF;refine jN ?_;go_simp;refine (putT s (HB.grew hG) (zf hB hG.size) hl hm1 h9 (by rw[jT];omega)).mono ?_;rintro r w5 ⟨rfl,ht⟩;refine hK _ _ ?_;have HT:=zh (kO.after hG ht);clear ht;go_wp2;go_end0;exact⟨rfl,by rw[jL,zl HX.out];exact HT.out⟩
theorem ZS (s:St) (x:Int) (h:yA B w p o s.1 jB s.2) (hB:B≤w.heap.size) (hl:(s.1.length:Int)≤jB) (hm1:jB≤1048576) :
 Calls prog 99 #[jI p,.int .i64 x] w λr w'=>r=.returned (.tuple #[])∧kO B w w' p o jB (jL jB x s):=by
 have HB:=zh h;clear h;go_enter func99,ntmps99;go_wp2_with fail;have G:jC w ((w.alloc (.cells #[jI p] 100)).alloc (.cells #[.int .i64 x] 3)):=((jC.refl w).alloc _).alloc _;refine (uI s x _ _ (HB.grew G) (jL jB x s) (λhx=>by rw[jL,ze oL]) (λ_=>enters_of func159 zk rfl _ _) (λhx=>B4 s x _ _ zp3 zp3 (HB.grew G) (zf hB G.size) hl hm1 hx)).mono ?_;rintro r w5 ⟨rfl,ht⟩;have HT:=zh (kO.after G ht);clear ht G;go_wp2;go_end0;exact⟨rfl,HT.out⟩
theorem sum_any (w:World) (lv:Value) (ss:List ByteArray) (hs:aI w lv ss) (hsl:ss.length≤1048576) (hss:yY ss≤1073741824) :
 Calls prog 165 #[lv] w λr w'=>r=.returned (.int .i64 (yY ss))∧w'=w:=by
 obtain⟨a,c,rfl,kM⟩:=hs.form;have HC:=zh kM;clear hs kM;go_enter func165,ntmps165;go_wp2_with fail
 go_loopw [2,4,7] (λt _ i wr=>wr=w∧∃k:Nat,k≤ss.length∧i=.int .i64 k∧∃z:Nat,t=.int .i64 z∧Hid (z=yY (ss.take k))) (λ_ _ i _=>ss.length - (intOf i).toNat)
 case atStart=>exact⟨rfl,0,Nat.zero_le _,rfl,0,rfl,rfl⟩
 case round=>
  obtain⟨rfl,k,hk,rfl,z,rfl,HZ⟩:=hrel;have hz:z≤1073741824:=by rw[HZ];have:=VI ss k;omega
  by_cases hlt:k < ss.length
  ·obtain⟨bl,off,rfl,hc⟩:=HC.out k ss[k] (za hlt);have hz2:ss[k].size≤1073741824:=by have:=VH ss k hlt;have:=VI ss (k+1);omega
   have HN:Hid (z+ss[k].size=yY (ss.take (k+1))):=by show _=_;rw[VH ss k hlt,HZ]
   generalize ss[k]=sk at *;go_wp2;go_roundw
   case rel=>exact⟨trivial,k+1,by omega,by go_num,z+sk.size,by go_num,HN⟩
   case measure=>simp[intOf];omega
  have e:k=ss.length:=by omega
  have HE:Hid (z=yY ss):=by show _=_;rw[HZ,e,qn]
  clear HZ e;go_wp2;go_ret;exact⟨by rw[← HE.out];rfl,rfl⟩
theorem J1 (jB:Int) (l y:List UInt8) (hf:(l.length:Int)+y.length≤jB):kQ jB y (l,0)=(l++y,0):=by
 show (aA l y jB 0,dK l y jB 0)=_;unfold aA dK;have h1:((0:Int)=0∧(y.length:Int)≤jB - l.length):=⟨rfl,by omega⟩;have h2:¬((0:Int)=0∧¬(y.length:Int)≤jB - l.length):=λh=>h.2 zo;rw[zl h1,ze h2]
theorem wT (s:St) (lv:Value) (ss:List ByteArray) (h:yA B w p o s.1 jB s.2) (hB:B≤w.heap.size) (hl:(s.1.length:Int)≤jB) (hm1:jB≤1048576)
 (hs:aI w lv ss) (hsl:ss.length≤1048576) (hss:yY ss≤1073741824) (hap:∀ad n c,lv=.slice (some ad) n c→¬KL p o ad.block) :
 Calls prog 104 #[jI p,lv] w λr w'=>r=.returned (.tuple #[])∧kO B w w' p o jB (kQ jB (jS ss) s):=by
 have HB:=zh h;have HS:=zh hs;obtain⟨a,c,rfl,kM⟩:=hs.form;have HC:=zh kM;have HA:=zh hap;have hb:=h;obtain⟨_,v,h1,h2,_⟩:=hb;obtain⟨c0,c1,c2,c3⟩:=J5 h1;have hmm:IntKind.i64.wrap (jB - (s.1.length:Int))=jB - (s.1.length:Int):=by rw[zy];omega
 clear h hs kM h1 h2 hap;go_enter func104,ntmps104;go_wp2_with fail;refine (KC HB.out).mono ?_;rintro r w' ⟨rfl,rfl⟩;by_cases he:s.2=0
 ·have HE:=zh he;rw[he] at c3⊢;clear he;by_cases hf:(yY ss:Int)≤jB - s.1.length
  ·have hdec:decide (jB - (s.1.length:Int) < (yY ss:Int))=false:=by simp;omega
   have HSZ:Hid ((jS ss).length=yY ss):=QM ss;go_wp2_with fail;refine kH jC [[],[0],[],[2],[3],[4],[],[6],[5,7],[1,8]] [[(12,2),(13,3),(14,4),(15,5),(16,6),(17,7),(18,8),(19,9)],[(10,0),(12,2),(13,3),(14,4),(15,5),(16,6),(17,7),(18,8)],[(10,0),(11,1),(14,4),(15,5),(16,6),(17,7),(18,8),(19,9)],[(10,0),(11,1),(12,2),(15,5),(16,6),(17,7),(18,8),(19,9)],[(10,0),(11,1),(12,2),(13,3),(16,6),(17,7),(18,8),(19,9)],[(10,0),(11,1),(12,2),(13,3),(14,4),(16,6),(17,7),(19,9)],[(10,0),(11,1),(12,2),(13,3),(14,4),(15,5),(18,8),(19,9)],[(10,0),(11,1),(12,2),(13,3),(14,4),(15,5),(16,6),(19,9)],[(10,0),(11,1),(12,2),(13,3),(14,4),(15,5),(16,6),(17,7)],[(10,0),(11,1),(12,2),(13,3),(14,4),(15,5),(16,6),(17,7),(18,8)]] [(10,0),(11,1),(12,2),(13,3),(14,4),(15,5),(16,6),(17,7),(18,8),(19,9)]
    [Is (.slice a ss.length c),Is (.int .i64 (yY ss:Int)),Is (jI p),Is (jI p),Is (.pointer (some ⟨p,2,none⟩)),Is (.int .i64 jB),Is (jI p),Is (.int .i64 (s.1.length:Int)),Is (.int .i64 (jB - (s.1.length:Int))),Is (.bool false)]
    zk jC.trans jC.refl (jC.refl _).drew zk ⟨jJ,jJ,jJ,jJ,jJ,jJ,jJ,jJ,jJ,jJ,trivial⟩ ⟨?_,?_,?_,?_,?_,?_,?_,?_,?_,?_,trivial⟩ rfl ?_
   ·exact zst
   ·exact zb43
   ·exact zst
   ·exact zst
   ·exact zst
   ·intro y w2 hG hD K hK;have dc2:=hG.cell c2;exact zsr
   ·exact zst
   ·exact zb42
   ·exact zst
   ·exact zst
   intro y w2 hG hF;simp only[zV,Is,and_true,Nat.reduceAdd] at hF;simp only[jF,Act.put,zq,Is];simp only[hF];clear hF;clear c0 c1 c2 c3 hmm hdec;go_wp2_with fail
   go_loopw [6,26] (λ_ i wr=>∃k:Nat,k≤ss.length∧i=.int .i64 k∧Hid (kO B w' wr p o jB (s.1++jS (ss.take k),0))) (λ_ i _=>ss.length - (intOf i).toNat)
   case atStart=>
    refine⟨0,Nat.zero_le _,rfl,?_⟩;show kO _ _ _ _ _ _ _;refine kO.after hG (kO.refl ?_);have h5:=HB.grew hG;rw[HE] at h5;simpa [jS] using h5
   case round=>
    obtain⟨k,hk,rfl,HW⟩:=hrel;by_cases hlt:k < ss.length
    ·obtain⟨bl,off,rfl,hc0⟩:=HC.out k ss[k] (za hlt)
     have hc:wr.cell? ⟨bl,off+k,none⟩=some (.string ss[k]):=by
      obtain⟨o',_,_,hm⟩:=HW.out;exact hm.cell hc0 (HA.out ⟨bl,off,none⟩ _ _ rfl)
     have hz2:ss[k].size≤1073741824:=(by have:=VH ss k hlt;have:=VI ss (k+1);omega);obtain⟨bv,w3,hr,hv,hg⟩:=sU wr ss[k] zo;have kE:(jS (ss.take k)).length+(ss[k].data.toList).length≤yY ss:=(by rw[QM];have:=VH ss k hlt;have:=VI ss (k+1);have e9:(ss[k].data.toList).length=ss[k].size:=rfl;omega);have HL:=zh kE;have HN:Hid (jS (ss.take (k+1))=jS (ss.take k)++ss[k].data.toList):=wR ss k hlt;have HV:=zh (qa hv hg);have hw3:=hg.size;have hBr:B≤wr.heap.size:=(by obtain⟨o',_,_,hm⟩:=HW.out;have:=hm.size;omega);clear hv hg kE hc0;generalize ss[k]=sk at *
     have hdo:Calls prog 160 #[jI p,bv] w3 λr w''=>r=.returned (.tuple #[])∧kO B w' w'' p o jB (s.1++jS (ss.take (k+1)),0):=by
      obtain⟨o',k1,k2,k3⟩:=HW.out;have hL:=HL.out;refine (putT (s.1++jS (ss.take k),0) (k1.grew HV.2) zo zp6 hm1 HV.1 zo).mono ?_;rintro r w'' ⟨rfl,ht⟩;rw[J1 _ _ _ (by rw[zb];omega)] at ht;obtain⟨o2,t1,t2,t3⟩:=kO.after HV.2 ht;exact⟨rfl,o2,by rw[HN,← qe];exact t1,k2.trans t2 k3.size,k3.own k2 t3⟩
     have HD:=zh hdo;have he38:∀args w,(callFunc 160 args).run prog w=.ok (.enter 160 args) w:=enters_of func160 zk rfl;clear hdo HW HV;go_wp2_with fail;refine HD.mono ?_;rintro r w4 ⟨rfl,ht⟩;have HT:=zh ht;clear ht;go_wp2;go_roundw
     case rel=>exact⟨k+1,by omega,by go_num,HT⟩
     case measure=>simp[intOf];omega
    have e:k=ss.length:=by omega
    have HF:Hid (kO B w' wr p o jB (kQ jB (jS ss) s)):=by
     have h5:=HW.out;rw[e,qn] at h5
     have e7:kQ jB (jS ss) s=(s.1++jS ss,0):=by
      unfold kQ aA dK;have:=HSZ.out;rw[zl ⟨HE.out,by omega⟩,ze (λh=>h.2 zo),HE]
     show kO _ _ _ _ _ _ _;rw[e7];exact h5
    clear HW;go_wp2;go_end0;exact⟨rfl,HF.out⟩
  have hdec:decide (jB - (s.1.length:Int) < (yY ss:Int))=true:=by simp;omega
  have HF:Hid (kQ jB (jS ss) s=bZ 5 s):=by
   show _=_;unfold kQ bZ aA dK zO;have:=QM ss;rw[ze (λh=>by have:=h.2;omega),zl ⟨HE.out,λh=>by omega⟩,zl HE.out]
  go_wp2_with fail;refine kH jC [[],[0],[],[2],[3],[4],[],[6],[5,7],[1,8]] [[(12,2),(13,3),(14,4),(15,5),(16,6),(17,7),(18,8),(19,9)],[(10,0),(12,2),(13,3),(14,4),(15,5),(16,6),(17,7),(18,8)],[(10,0),(11,1),(14,4),(15,5),(16,6),(17,7),(18,8),(19,9)],[(10,0),(11,1),(12,2),(15,5),(16,6),(17,7),(18,8),(19,9)],[(10,0),(11,1),(12,2),(13,3),(16,6),(17,7),(18,8),(19,9)],[(10,0),(11,1),(12,2),(13,3),(14,4),(16,6),(17,7),(19,9)],[(10,0),(11,1),(12,2),(13,3),(14,4),(15,5),(18,8),(19,9)],[(10,0),(11,1),(12,2),(13,3),(14,4),(15,5),(16,6),(19,9)],[(10,0),(11,1),(12,2),(13,3),(14,4),(15,5),(16,6),(17,7)],[(10,0),(11,1),(12,2),(13,3),(14,4),(15,5),(16,6),(17,7),(18,8)]] [(10,0),(11,1),(12,2),(13,3),(14,4),(15,5),(16,6),(17,7),(18,8),(19,9)]
   [Is (.slice a ss.length c),Is (.int .i64 (yY ss:Int)),Is (jI p),Is (jI p),Is (.pointer (some ⟨p,2,none⟩)),Is (.int .i64 jB),Is (jI p),Is (.int .i64 (s.1.length:Int)),Is (.int .i64 (jB - (s.1.length:Int))),Is (.bool true)]
   zk jC.trans jC.refl (jC.refl _).drew zk ⟨jJ,jJ,jJ,jJ,jJ,jJ,jJ,jJ,jJ,jJ,trivial⟩ ⟨?_,?_,?_,?_,?_,?_,?_,?_,?_,?_,trivial⟩ rfl ?_
  ·exact zst
  ·exact zb43
  ·exact zst
  ·exact zst
  ·exact zst
  ·intro y w2 hG hD K hK;have dc2:=hG.cell c2;exact zsr
  ·exact zst
  ·exact zb42
  ·exact zst
  ·exact zst
  intro y w2 hG hF;simp only[zV,Is,and_true,Nat.reduceAdd] at hF;simp only[jF,Act.put,zq,Is];simp only[hF];clear hF;clear c0 c1 c2 c3 hmm hdec;have h5:=HB.grew hG;have H5:=zh h5;have HG:=zh hG;clear h5 hG;go_wp2_with fail;refine (failT s 5 H5.out).mono ?_;rintro r w5 ⟨rfl,ht⟩;have HT:=zh (kO.after HG.out ht);clear ht;go_wp2;refine bodyPost_ret (results_none rfl _ _ _) rfl ?_;exact⟨rfl,by rw[HF];exact HT.out⟩
 have HF:Hid (kQ jB (jS ss) s=s):=by
  show _=_;obtain⟨l,e⟩:=s;unfold kQ aA dK;rw[ze (λh=>he h.1),ze (λh=>he h.1)]
 have hne:(s.2 != 0)=true:=by simpa using he
 go_wp2;refine bodyPost_ret (results_none rfl _ _ _) rfl ?_;exact⟨rfl,by rw[HF];exact kO.refl HB.out⟩
def DN:ByteArray:=⟨#[120]⟩
theorem LR (w:World) (ss:List ByteArray) (t:TypeId):aI (w.alloc (.cells (ss.map Value.string).toArray t)) (.slice (some ⟨w.heap.size,0,none⟩) ss.length ss.length) ss:=by
 refine⟨_,_,rfl,λi s hs=>⟨_,_,rfl,?_⟩⟩;rw[cell_of_row _ _ _ _ _ _ (qc _ _),Nat.zero_add];simp[hs]
theorem yA.lt {l:List UInt8} {e:Int} (h:yA B w p o l jB e):∀k,KL p o k→k < w.heap.size:=by
 obtain⟨_,v,h1,h2,h3,_⟩:=h;intro k hk;rcases hk with rfl|hk
 ·exact (zc.1 h1).1
 exact (qm h2 k (by rw[h3,← hk])).2
theorem hs3 {a:ByteArray} (h:a.size≤40):yY [a,DN,a]≤1073741824:=by
 have e:DN.size=1:=rfl;simp[yY,e];omega
theorem DO (s:St) (ss:List ByteArray) (h:yA B w p o s.1 jB s.2) (hB:B≤w.heap.size) (hl:(s.1.length:Int)≤jB) (hm1:jB≤1048576)
 (hsl:ss.length≤1048576) (hss:yY ss≤1073741824) :
 Calls prog 104 #[jI p,.slice (some ⟨w.heap.size,0,none⟩) ss.length ss.length] (w.alloc (.cells (ss.map Value.string).toArray 9)) λr w'=>r=.returned (.tuple #[])∧kO B w w' p o jB (kQ jB (jS ss) s):=by
 have hg:=(jC.refl w).alloc (.cells (ss.map Value.string).toArray 9);refine (wT s _ ss (h.grew hg) (zf hB hg.size) hl hm1 (LR w ss _) hsl hss ?_).mono λr w' ⟨hr,ht⟩=>⟨hr,ht.after hg⟩;intro ad n c he hk;injection he with e1 _ _;injection e1 with e1;subst e1;exact absurd (h.lt _ hk) (Nat.lt_irrefl _)
theorem eB (s:St) (x:ByteArray) (k:Nat) (hk:k=w.heap.size) (h:yA B w p o s.1 jB s.2) (hB:B≤w.heap.size) (hl:(s.1.length:Int)≤jB) (hm1:jB≤1048576)
 (hss:yY [x]≤1073741824) :
 Calls prog 104 #[jI p,.slice (some ⟨k,0,none⟩) 1 1] (w.alloc (.cells #[.string x] 9)) λr w'=>r=.returned (.tuple #[])∧kO B w w' p o jB (kQ jB (jS [x]) s):=by
 subst hk;exact DO s [x] h hB hl hm1 zp2 hss
theorem LS (s:St) (x y:ByteArray) (k:Nat) (hk:k=w.heap.size) (h:yA B w p o s.1 jB s.2) (hB:B≤w.heap.size) (hl:(s.1.length:Int)≤jB) (hm1:jB≤1048576)
 (hss:yY [x,y]≤1073741824) :
 Calls prog 104 #[jI p,.slice (some ⟨k,0,none⟩) 2 2] (w.alloc (.cells #[.string x,.string y] 9)) λr w'=>r=.returned (.tuple #[])∧kO B w w' p o jB (kQ jB (jS [x,y]) s):=by
 subst hk;exact DO s [x,y] h hB hl hm1 zp2 hss
section
variable {w0 w:World} {p:Nat} {jB:Int} {s:St}
def eC (s:St):List UInt8:=if s.2=0 then s.1 else []
end
end Go.Proofs.YtdjoffgkndncfaaGreat
