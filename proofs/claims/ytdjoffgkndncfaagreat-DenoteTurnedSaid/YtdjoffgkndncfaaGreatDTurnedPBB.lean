/-
  Texts of the proof.
-/
import Derived.Test.YtdjoffgkndncfaaGreatDTurnedPAZ
import Derived.Test.YtdjoffgkndncfaaGreatDTurnedPBA
set_option linter.unusedVariables false
set_option linter.unusedSimpArgs false
set_option maxHeartbeats 4000000
set_option maxRecDepth 100000
namespace Go.Proofs.YtdjoffgkndncfaaGreat
open Go.Proofs.Tryz
open Go Go.ChangeShapes Go.WideShapes Go.ChangeAt Go.RowKit Go.Joins
theorem tO (w:World) (n:Nat) (hn:n≤1099511627776) :
 ∃w',(Instr.makeSlice 28 (.int .i64 (n:Int)) (.int .i64 (n:Int))).run prog w=.ok (.slice (some ⟨w.heap.size,0,none⟩) n n) w'∧kQ w' (.slice (some ⟨w.heap.size,0,none⟩) n n) (kM n)∧jD w w':=by
 obtain⟨i0,hi,hz0,hz1,hz2⟩:=V8;obtain⟨w',hr,ho,hg⟩:=run_make_full (P:=prog) w w.heap.size 28 5 i0 (.int .u8 0) 1 underlying28 hi hz0 hz1 .i64 .i64 n (by rw[hz2];omega) zp9 (Nat.le_refl _);refine⟨w',hr,?_,⟨hg.os,hg.tape,hg.output,hg.size,fun k hk=>hg.block k hk zp2⟩⟩
 have e:(madeCells (Value.int .u8 0).cells (n*1)).toList=Lib.byteCells (kM n):=by
  show (madeCells #[Value.int .u8 0] (n*1)).toList=_;rw[Nat.mul_one,toList_madeCells_one];simp[Lib.byteCells,kM]
 rw[e] at ho;have e2:(kM n).length=n:=zM n;have:=kQ.of_own (l:=kM n) (v:=.slice (some ⟨w.heap.size,0,none⟩) n n) (w:=w') (B:=w.heap.size) (t:=5) (by rw[e2];exact ho);exact this
theorem pI {P:Program} (w:World) {o:Oper} {a:Act} {K:Act→World→Prop} {Q:Exit→Act→World→Prop} (t:TypeId) (l c:Operand)
 (ho:o.op=.makeSlice t l c) (vl vc:Value) (hl:a.eval l=vl) (hc:a.eval c=vc) (v':Value) (w':World) (hr:(Instr.makeSlice t vl vc).run P w=.ok v' w') (h:K (a.put o.dst v') w'):o.wp P a w K Q:=by
 unfold Oper.wp execOp;simp only[ho,Sem.run_bind,Sem.run_pure,Result.andThen_ok,hl,hc,hr,Sem.run_map,Functor.map];exact h
theorem hZ {o:Oper} {a:Act} {K:Act→World→Prop} {Q:Exit→Act→World→Prop} (w:World) (l c:Operand) (ho:o.op=.makeSlice 28 l c) (n:Nat) (hl:a.eval l=.int .i64 n) (hc:a.eval c=.int .i64 n) (hn:n≤1099511627776)
 (h:∀v w',kQ w' v (kM n)→jD w w'→K (a.put o.dst v) w'):o.wp prog a w K Q:=by
 obtain⟨w3,hr,hv,hg⟩:=tO w n hn;exact pI w _ _ _ ho _ _ hl hc _ _ hr (h _ _ hv hg)
theorem tP {B:Nat} {w:World} {p:Nat} {o:Option Nat} {jB:Int} (s:St) (x:Int) (a b:Addr) (ca:w.cell? a=some (jI p)) (cb:w.cell? b=some (.int .i64 x))
 (h:zK B w p o s.1 jB s.2) (hB:B≤w.heap.size) (hl:(s.1.length:Int)≤jB) (hm1:jB≤1048576) (hx:isW x=true) :
 Calls prog 159 #[.pointer (some a),.pointer (some b)] w fun r w'=>r=.returned (.tuple #[])∧kA B w w' p o jB (jK jB x s):=by
 have HB:=zh h;have HX:=zh hx;have hx8:1≤x∧x≤8:=by rcases zE hx with rfl | rfl | rfl | rfl<;>decide
 obtain⟨x0,x1⟩:=hx8;have hp:=uT (l:=s.1) hx;have hm0:0≤(s.1.length:Int) % x:=Int.emod_nonneg _ zo;have hm2:(s.1.length:Int) % x < x:=Int.emod_lt_of_pos _ zo;have HP:=zh hp;have hp1:=hp.1;clear h hx hp;have e1:((s.1.length:Int)).tmod x=(s.1.length:Int) % x:=Int.tmod_eq_emod_of_nonneg zo;have e2:(x - (s.1.length:Int) % x).tmod x=(zF s.1 x:Int):=by rw[Int.tmod_eq_emod_of_nonneg zo];exact HP.out.2.symm
 have e3:IntKind.i64.wrap (x - (s.1.length:Int) % x)=x - (s.1.length:Int) % x:=by rw[IntKind.wrap_i64];omega
 have hx0:¬(x=0):=by omega
 go_enter func159,ntmps159;refine yS jD [[],[],[],[2],[],[3,4],[1,5],[],[6,7],[8],[0,9]] [[(3,1),(4,2),(5,3),(6,4),(7,5),(8,6),(9,7),(10,8),(11,9)],[(2,0),(4,2),(5,3),(6,4),(7,5),(9,7),(10,8),(11,9),(12,10)],[(2,0),(3,1),(6,4),(7,5),(8,6),(9,7),(10,8),(11,9),(12,10)],[(2,0),(3,1),(4,2),(6,4),(8,6),(9,7),(10,8),(11,9),(12,10)],[(2,0),(3,1),(4,2),(5,3),(8,6),(9,7),(10,8),(11,9),(12,10)],[(2,0),(3,1),(4,2),(5,3),(6,4),(9,7),(10,8),(11,9),(12,10)],[(2,0),(3,1),(4,2),(5,3),(6,4),(7,5),(9,7),(11,9),(12,10)],[(2,0),(3,1),(4,2),(5,3),(6,4),(7,5),(8,6),(11,9),(12,10)],[(2,0),(3,1),(4,2),(5,3),(6,4),(7,5),(8,6),(9,7),(12,10)],[(2,0),(3,1),(4,2),(5,3),(6,4),(7,5),(8,6),(9,7),(10,8)],[(2,0),(3,1),(4,2),(5,3),(6,4),(7,5),(8,6),(9,7),(10,8),(11,9)]]
  [Is (jI p),Is (.int .i64 x),Is (jI p),Is (.int .i64 (s.1.length:Int)),Is (.int .i64 x),Is (.int .i64 ((s.1.length:Int) % x)),Is (.int .i64 (x - (s.1.length:Int) % x)),Is (.int .i64 x),Is (.int .i64 (zF s.1 x:Int)),fun v w=>kQ w v (kM (zF s.1 x))]
  zk jD.trans jD.refl (jD.refl _).drew zk ⟨jJ,jJ,jJ,jJ,jJ,jJ,jJ,jJ,jJ,fun _ _ _ hr h=>kQ.grew h hr,trivial⟩ rfl ⟨?_,?_,?_,?_,?_,?_,?_,?_,?_,?_,trivial⟩ ?_ rfl
 ·exact zb27
 ·exact zb27
 ·exact zb27
 ·exact zb28
 ·exact zb27
 ·exact zst
 ·exact zst
 ·exact zb27
 ·exact zst
 ·intro y w2 hG hD K hK;simp only[j5,zq4,zq5,Is,and_true] at hD;simp only[jE,Act.put,zq,Is] at hK⊢;simp only[hD] at hK⊢;clear hD;refine jM ?_;refine hZ w2 _ _ rfl (zF s.1 x) rfl rfl zo ?_;intro v w3 hv hg;exact hK _ _ _ rfl hg hv
 ·intro y w2 hG hF K hK;simp only[zI,Is,and_true,Nat.reduceAdd] at hF;have h0:=hF.1;have h1:=hF.2.1;have h2:=hF.2.2.1;have h3:=hF.2.2.2.1;have h4:=hF.2.2.2.2.1;have h5:=hF.2.2.2.2.2.1;have h6:=hF.2.2.2.2.2.2.1;have h7:=hF.2.2.2.2.2.2.2.1;have h8:=hF.2.2.2.2.2.2.2.2.1;have h9:=hF.2.2.2.2.2.2.2.2.2;clear hF;simp only[vE];simp only[jE,Act.put,zq,Is] at hK⊢;rw[h0,h1,h2,h3,h4,h5,h6,h7,h8];clear h0 h1 h2 h3 h4 h5 h6 h7 h8;refine jM ?_;go_simp;refine (putT s (HB.out.grew hG) (Nat.le_trans hB hG.size) hl hm1 h9 (by rw[zM];omega)).mono ?_;rintro r w5 ⟨rfl,ht⟩;refine hK _ _ ?_;have HT:=zh (kA.after hG ht);clear ht;go_wp2;go_end0;exact⟨rfl,by rw[jK,if_pos HX.out];exact HT.out⟩
theorem KF {B:Nat} {w:World} {p:Nat} {o:Option Nat} {jB:Int} (s:St) (x:Int) (h:zK B w p o s.1 jB s.2) (hB:B≤w.heap.size) (hl:(s.1.length:Int)≤jB) (hm1:jB≤1048576) :
 Calls prog 99 #[jI p,.int .i64 x] w fun r w'=>r=.returned (.tuple #[])∧kA B w w' p o jB (jK jB x s):=by
 have HB:=zh h;clear h;go_enter func99,ntmps99;go_wp2_with fail;have G:jD w ((w.alloc (.cells #[jI p] 100)).alloc (.cells #[.int .i64 x] 3)):=((jD.refl w).alloc _).alloc _;refine (oM s x _ _ (HB.out.grew G) (jK jB x s) (fun hx=>by rw[jK,if_neg (by simp[hx])]) (fun _=>enters_of func159 zk rfl _ _) (fun hx=>tP s x _ _ zp4 zp4 (HB.out.grew G) (Nat.le_trans hB G.size) hl hm1 hx)).mono ?_;rintro r w5 ⟨rfl,ht⟩;have HT:=zh (kA.after G ht);clear ht G;go_wp2;go_end0;exact⟨rfl,HT.out⟩
theorem sum_any (w:World) (lv:Value) (ss:List ByteArray) (hs:QT w lv ss) (hsl:ss.length≤1048576) (hss:yK ss≤1073741824) :
 Calls prog 165 #[lv] w fun r w'=>r=.returned (.int .i64 (yK ss))∧w'=w:=by
 obtain⟨a,c,rfl,j7⟩:=hs.form;have HC:=zh j7;clear hs j7;go_enter func165,ntmps165;go_wp2_with fail
 go_loopw [2,4,7] (fun t _ i wr=>wr=w∧∃k:Nat,k≤ss.length∧i=.int .i64 k∧∃z:Nat,t=.int .i64 z∧Hid (z=yK (ss.take k))) (fun _ _ i _=>ss.length - (intOf i).toNat)
 case atStart=>exact⟨rfl,0,Nat.zero_le _,rfl,0,rfl,rfl⟩
 case round=>
  obtain⟨rfl,k,hk,rfl,z,rfl,HZ⟩:=hrel;have hz:z≤1073741824:=by rw[HZ.out];have:=YX ss k;omega
  by_cases hlt:k < ss.length
  ·obtain⟨bl,off,rfl,hc⟩:=HC.out k ss[k] (List.getElem?_eq_getElem hlt);have hz2:ss[k].size≤1073741824:=by have:=YW ss k hlt;have:=YX ss (k+1);omega
   have HN:Hid (z+ss[k].size=yK (ss.take (k+1))):=by show _=_;rw[YW ss k hlt,HZ.out]
   generalize ss[k]=sk at *;go_wp2;go_roundw
   case rel=>exact⟨trivial,k+1,by omega,by go_num,z+sk.size,by go_num,HN⟩
   case measure=>simp[intOf];omega
  ·have e:k=ss.length:=by omega
   have HE:Hid (z=yK ss):=by show _=_;rw[HZ.out,e,List.take_length]
   clear HZ e;go_wp2;go_ret;exact⟨by rw[← HE.out];rfl,rfl⟩
theorem bF (jB:Int) (l y:List UInt8) (hf:(l.length:Int)+y.length≤jB):kF jB y (l,0)=(l++y,0):=by
 show (QL l y jB 0,aO l y jB 0)=_;unfold QL aO;have h1:((0:Int)=0∧(y.length:Int)≤jB - l.length):=⟨rfl,by omega⟩;have h2:¬((0:Int)=0∧¬(y.length:Int)≤jB - l.length):=fun h=>h.2 zo;rw[if_pos h1,if_neg h2]
theorem pJ {B:Nat} {w:World} {p:Nat} {o:Option Nat} {jB:Int} (s:St) (lv:Value) (ss:List ByteArray) (h:zK B w p o s.1 jB s.2) (hB:B≤w.heap.size) (hl:(s.1.length:Int)≤jB) (hm1:jB≤1048576)
 (hs:QT w lv ss) (hsl:ss.length≤1048576) (hss:yK ss≤1073741824) (hap:∀ad n c,lv=.slice (some ad) n c→¬JF p o ad.block) :
 Calls prog 104 #[jI p,lv] w fun r w'=>r=.returned (.tuple #[])∧kA B w w' p o jB (kF jB (jV ss) s):=by
 have HB:=zh h;have HS:=zh hs;obtain⟨a,c,rfl,j7⟩:=hs.form;have HC:=zh j7;have HA:=zh hap;have hb:=h;obtain⟨_,v,h1,h2,_⟩:=hb;obtain⟨c0,c1,c2,c3⟩:=vS h1;have hmm:IntKind.i64.wrap (jB - (s.1.length:Int))=jB - (s.1.length:Int):=by rw[IntKind.wrap_i64];omega
 clear h hs j7 h1 h2 hap;go_enter func104,ntmps104;go_wp2_with fail;refine (vY HB.out).mono ?_;rintro r w' ⟨rfl,rfl⟩;by_cases he:s.2=0
 ·have HE:=zh he;rw[he] at c3⊢;clear he;by_cases hf:(yK ss:Int)≤jB - s.1.length
  ·have hdec:decide (jB - (s.1.length:Int) < (yK ss:Int))=false:=by simp;omega
   have HSZ:Hid ((jV ss).length=yK ss):=Z8 ss;go_wp2_with fail;refine j9 jD [[],[0],[],[2],[3],[4],[],[6],[5,7],[1,8]] [[(12,2),(13,3),(14,4),(15,5),(16,6),(17,7),(18,8),(19,9)],[(10,0),(12,2),(13,3),(14,4),(15,5),(16,6),(17,7),(18,8)],[(10,0),(11,1),(14,4),(15,5),(16,6),(17,7),(18,8),(19,9)],[(10,0),(11,1),(12,2),(15,5),(16,6),(17,7),(18,8),(19,9)],[(10,0),(11,1),(12,2),(13,3),(16,6),(17,7),(18,8),(19,9)],[(10,0),(11,1),(12,2),(13,3),(14,4),(16,6),(17,7),(19,9)],[(10,0),(11,1),(12,2),(13,3),(14,4),(15,5),(18,8),(19,9)],[(10,0),(11,1),(12,2),(13,3),(14,4),(15,5),(16,6),(19,9)],[(10,0),(11,1),(12,2),(13,3),(14,4),(15,5),(16,6),(17,7)],[(10,0),(11,1),(12,2),(13,3),(14,4),(15,5),(16,6),(17,7),(18,8)]] [(10,0),(11,1),(12,2),(13,3),(14,4),(15,5),(16,6),(17,7),(18,8),(19,9)]
    [Is (.slice a ss.length c),Is (.int .i64 (yK ss:Int)),Is (jI p),Is (jI p),Is (.pointer (some ⟨p,2,none⟩)),Is (.int .i64 jB),Is (jI p),Is (.int .i64 (s.1.length:Int)),Is (.int .i64 (jB - (s.1.length:Int))),Is (.bool false)]
    zk jD.trans jD.refl (jD.refl _).drew zk ⟨jJ,jJ,jJ,jJ,jJ,jJ,jJ,jJ,jJ,jJ,trivial⟩ ⟨?_,?_,?_,?_,?_,?_,?_,?_,?_,?_,trivial⟩ rfl ?_
   ·exact zst
   ·exact zb29
   ·exact zst
   ·exact zst
   ·exact zst
   ·intro y w2 hG hD K hK;have dc2:=hG.cell c2;exact zsr
   ·exact zst
   ·exact zb28
   ·exact zst
   ·exact zst
   ·intro y w2 hG hF;simp only[zI,Is,and_true,Nat.reduceAdd] at hF;have h0:=hF.1;have h1:=hF.2.1;have h2:=hF.2.2.1;have h3:=hF.2.2.2.1;have h4:=hF.2.2.2.2.1;have h5:=hF.2.2.2.2.2.1;have h6:=hF.2.2.2.2.2.2.1;have h7:=hF.2.2.2.2.2.2.2.1;have h8:=hF.2.2.2.2.2.2.2.2.1;have h9:=hF.2.2.2.2.2.2.2.2.2;clear hF;simp only[jE,Act.put,zq,Is];rw[h0,h1,h2,h3,h4,h5,h6,h7,h8,h9];clear h0 h1 h2 h3 h4 h5 h6 h7 h8 h9;clear c0 c1 c2 c3 hmm hdec;go_wp2_with fail
    go_loopw [6,26] (fun _ i wr=>∃k:Nat,k≤ss.length∧i=.int .i64 k∧Hid (kA B w' wr p o jB (s.1++jV (ss.take k),0))) (fun _ i _=>ss.length - (intOf i).toNat)
    case atStart=>
     refine⟨0,Nat.zero_le _,rfl,?_⟩;show kA _ _ _ _ _ _ _;refine kA.after hG (kA.refl ?_);have h5:=HB.out.grew hG;rw[HE.out] at h5;simpa [jV] using h5
    case round=>
     obtain⟨k,hk,rfl,HW⟩:=hrel;by_cases hlt:k < ss.length
     ·obtain⟨bl,off,rfl,hc0⟩:=HC.out k ss[k] (List.getElem?_eq_getElem hlt)
      have hc:wr.cell? ⟨bl,off+k,none⟩=some (.string ss[k]):=by
       obtain⟨o',_,_,hm⟩:=HW.out;exact hm.cell hc0 (HA.out ⟨bl,off,none⟩ _ _ rfl)
      have hz2:ss[k].size≤1073741824:=(by have:=YW ss k hlt;have:=YX ss (k+1);omega);obtain⟨bv,w3,hr,hv,hg⟩:=mX wr ss[k] zo;have kN:(jV (ss.take k)).length+(ss[k].data.toList).length≤yK ss:=(by rw[Z8];have:=YW ss k hlt;have:=YX ss (k+1);have e9:(ss[k].data.toList).length=ss[k].size:=rfl;omega);have HL:=zh kN;have HN:Hid (jV (ss.take (k+1))=jV (ss.take k)++ss[k].data.toList):=pH ss k hlt;have HV:=zh (And.intro hv hg);have hw3:=hg.size;have hBr:B≤wr.heap.size:=(by obtain⟨o',_,_,hm⟩:=HW.out;have:=hm.size;omega);clear hv hg kN hc0;generalize ss[k]=sk at *
      have hdo:Calls prog 160 #[jI p,bv] w3 fun r w''=>r=.returned (.tuple #[])∧kA B w' w'' p o jB (s.1++jV (ss.take (k+1)),0):=by
       obtain⟨o',k1,k2,k3⟩:=HW.out;have hL:=HL.out;refine (putT (s.1++jV (ss.take k),0) (k1.grew HV.out.2) zo zp6 hm1 HV.out.1 zo).mono ?_;rintro r w'' ⟨rfl,ht⟩;rw[bF _ _ _ (by rw[List.length_append];omega)] at ht;obtain⟨o2,t1,t2,t3⟩:=kA.after HV.out.2 ht;exact⟨rfl,o2,by rw[HN.out,← List.append_assoc];exact t1,k2.trans t2 k3.size,k3.own k2 t3⟩
      have HD:=zh hdo;have he38:∀args w,(callFunc 160 args).run prog w=.ok (.enter 160 args) w:=enters_of func160 zk rfl;clear hdo HW HV;go_wp2_with fail;refine HD.out.mono ?_;rintro r w4 ⟨rfl,ht⟩;have HT:=zh ht;clear ht;go_wp2;go_roundw
      case rel=>exact⟨k+1,by omega,by go_num,HT⟩
      case measure=>simp[intOf];omega
     ·have e:k=ss.length:=by omega
      have HF:Hid (kA B w' wr p o jB (kF jB (jV ss) s)):=by
       have h5:=HW.out;rw[e,List.take_length] at h5
       have e7:kF jB (jV ss) s=(s.1++jV ss,0):=by
        unfold kF QL aO;have:=HSZ.out;rw[if_pos ⟨HE.out,by omega⟩,if_neg (fun h=>h.2 zo),HE.out]
       show kA _ _ _ _ _ _ _;rw[e7];exact h5
      clear HW;go_wp2;go_end0;exact⟨rfl,HF.out⟩
  ·have hdec:decide (jB - (s.1.length:Int) < (yK ss:Int))=true:=by simp;omega
   have HF:Hid (kF jB (jV ss) s=VX 5 s):=by
    show _=_;unfold kF VX QL aO zD;have:=Z8 ss;rw[if_neg (fun h=>by have:=h.2;omega),if_pos ⟨HE.out,fun h=>by omega⟩,if_pos HE.out]
   go_wp2_with fail;refine j9 jD [[],[0],[],[2],[3],[4],[],[6],[5,7],[1,8]] [[(12,2),(13,3),(14,4),(15,5),(16,6),(17,7),(18,8),(19,9)],[(10,0),(12,2),(13,3),(14,4),(15,5),(16,6),(17,7),(18,8)],[(10,0),(11,1),(14,4),(15,5),(16,6),(17,7),(18,8),(19,9)],[(10,0),(11,1),(12,2),(15,5),(16,6),(17,7),(18,8),(19,9)],[(10,0),(11,1),(12,2),(13,3),(16,6),(17,7),(18,8),(19,9)],[(10,0),(11,1),(12,2),(13,3),(14,4),(16,6),(17,7),(19,9)],[(10,0),(11,1),(12,2),(13,3),(14,4),(15,5),(18,8),(19,9)],[(10,0),(11,1),(12,2),(13,3),(14,4),(15,5),(16,6),(19,9)],[(10,0),(11,1),(12,2),(13,3),(14,4),(15,5),(16,6),(17,7)],[(10,0),(11,1),(12,2),(13,3),(14,4),(15,5),(16,6),(17,7),(18,8)]] [(10,0),(11,1),(12,2),(13,3),(14,4),(15,5),(16,6),(17,7),(18,8),(19,9)]
    [Is (.slice a ss.length c),Is (.int .i64 (yK ss:Int)),Is (jI p),Is (jI p),Is (.pointer (some ⟨p,2,none⟩)),Is (.int .i64 jB),Is (jI p),Is (.int .i64 (s.1.length:Int)),Is (.int .i64 (jB - (s.1.length:Int))),Is (.bool true)]
    zk jD.trans jD.refl (jD.refl _).drew zk ⟨jJ,jJ,jJ,jJ,jJ,jJ,jJ,jJ,jJ,jJ,trivial⟩ ⟨?_,?_,?_,?_,?_,?_,?_,?_,?_,?_,trivial⟩ rfl ?_
   ·exact zst
   ·exact zb29
   ·exact zst
   ·exact zst
   ·exact zst
   ·intro y w2 hG hD K hK;have dc2:=hG.cell c2;exact zsr
   ·exact zst
   ·exact zb28
   ·exact zst
   ·exact zst
   ·intro y w2 hG hF;simp only[zI,Is,and_true,Nat.reduceAdd] at hF;have h0:=hF.1;have h1:=hF.2.1;have h2:=hF.2.2.1;have h3:=hF.2.2.2.1;have h4:=hF.2.2.2.2.1;have h5:=hF.2.2.2.2.2.1;have h6:=hF.2.2.2.2.2.2.1;have h7:=hF.2.2.2.2.2.2.2.1;have h8:=hF.2.2.2.2.2.2.2.2.1;have h9:=hF.2.2.2.2.2.2.2.2.2;clear hF;simp only[jE,Act.put,zq,Is];rw[h0,h1,h2,h3,h4,h5,h6,h7,h8,h9];clear h0 h1 h2 h3 h4 h5 h6 h7 h8 h9;clear c0 c1 c2 c3 hmm hdec;have h5:=HB.out.grew hG;have H5:=zh h5;have HG:=zh hG;clear h5 hG;go_wp2_with fail;refine (failT s 5 H5.out).mono ?_;rintro r w5 ⟨rfl,ht⟩;have HT:=zh (kA.after HG.out ht);clear ht;go_wp2;refine bodyPost_ret (results_none rfl _ _ _) rfl ?_;exact⟨rfl,by rw[HF.out];exact HT.out⟩
 ·have HF:Hid (kF jB (jV ss) s=s):=by
   show _=_;obtain⟨l,e⟩:=s;unfold kF QL aO;rw[if_neg (fun h=>he h.1),if_neg (fun h=>he h.1)]
  have hne:(s.2 != 0)=true:=by simpa using he
  go_wp2;refine bodyPost_ret (results_none rfl _ _ _) rfl ?_;exact⟨rfl,by rw[HF.out];exact kA.refl HB.out⟩
def wF:ByteArray:=⟨#[120]⟩
theorem B9 (w:World) (ss:List ByteArray) (t:TypeId):QT (w.alloc (.cells (ss.map Value.string).toArray t)) (.slice (some ⟨w.heap.size,0,none⟩) ss.length ss.length) ss:=by
 refine⟨_,_,rfl,fun i s hs=>⟨_,_,rfl,?_⟩⟩;rw[cell_of_row _ _ _ _ _ _ (heap_alloc_new _ _),Nat.zero_add];simp[hs]
theorem zK.lt {B:Nat} {w:World} {p:Nat} {o:Option Nat} {l:List UInt8} {jB e:Int} (h:zK B w p o l jB e):∀k,JF p o k→k < w.heap.size:=by
 obtain⟨_,v,h1,h2,h3,_⟩:=h;intro k hk;rcases hk with rfl|hk
 ·exact (Array.getElem?_eq_some_iff.1 h1).1
 ·exact (World.ownsRow.lt h2 k (by rw[h3,← hk])).2
theorem hs3 {a:ByteArray} (h:a.size≤40):yK [a,wF,a]≤1073741824:=by
 have e:wF.size=1:=rfl;simp[yK,e];omega
theorem wG {B:Nat} {w:World} {p:Nat} {o:Option Nat} {jB:Int} (s:St) (ss:List ByteArray) (h:zK B w p o s.1 jB s.2) (hB:B≤w.heap.size) (hl:(s.1.length:Int)≤jB) (hm1:jB≤1048576)
 (hsl:ss.length≤1048576) (hss:yK ss≤1073741824) :
 Calls prog 104 #[jI p,.slice (some ⟨w.heap.size,0,none⟩) ss.length ss.length] (w.alloc (.cells (ss.map Value.string).toArray 9)) fun r w'=>r=.returned (.tuple #[])∧kA B w w' p o jB (kF jB (jV ss) s):=by
 have hg:=(jD.refl w).alloc (.cells (ss.map Value.string).toArray 9);refine (pJ s _ ss (h.grew hg) (Nat.le_trans hB hg.size) hl hm1 (B9 w ss _) hsl hss ?_).mono fun r w' ⟨hr,ht⟩=>⟨hr,ht.after hg⟩;intro ad n c he hk;injection he with e1 _ _;injection e1 with e1;subst e1;exact absurd (h.lt _ hk) (Nat.lt_irrefl _)
theorem bG {B:Nat} {w:World} {p:Nat} {o:Option Nat} {jB:Int} (s:St) (x:ByteArray) (k:Nat) (hk:k=w.heap.size) (h:zK B w p o s.1 jB s.2) (hB:B≤w.heap.size) (hl:(s.1.length:Int)≤jB) (hm1:jB≤1048576)
 (hss:yK [x]≤1073741824) :
 Calls prog 104 #[jI p,.slice (some ⟨k,0,none⟩) 1 1] (w.alloc (.cells #[.string x] 9)) fun r w'=>r=.returned (.tuple #[])∧kA B w w' p o jB (kF jB (jV [x]) s):=by
 subst hk;exact wG s [x] h hB hl hm1 zp2 hss
theorem CA {B:Nat} {w:World} {p:Nat} {o:Option Nat} {jB:Int} (s:St) (x y:ByteArray) (k:Nat) (hk:k=w.heap.size) (h:zK B w p o s.1 jB s.2) (hB:B≤w.heap.size) (hl:(s.1.length:Int)≤jB) (hm1:jB≤1048576)
 (hss:yK [x,y]≤1073741824) :
 Calls prog 104 #[jI p,.slice (some ⟨k,0,none⟩) 2 2] (w.alloc (.cells #[.string x,.string y] 9)) fun r w'=>r=.returned (.tuple #[])∧kA B w w' p o jB (kF jB (jV [x,y]) s):=by
 subst hk;exact wG s [x,y] h hB hl hm1 zp2 hss
section
variable {w0 w:World} {p:Nat} {jB:Int} {s:St}
def bH (s:St):List UInt8:=if s.2=0 then s.1 else []
end
end Go.Proofs.YtdjoffgkndncfaaGreat
