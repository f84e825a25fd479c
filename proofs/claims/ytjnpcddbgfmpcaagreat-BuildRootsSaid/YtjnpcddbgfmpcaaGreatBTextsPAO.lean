/-
  Texts of the proof.
-/
import Derived.Test.YtjnpcddbgfmpcaaGreatBTextsPAM
import Derived.Test.YtjnpcddbgfmpcaaGreatBTextsPAN
set_option linter.unusedVariables false
set_option linter.unusedSimpArgs false
set_option maxHeartbeats 4000000
set_option maxRecDepth 100000
namespace Go.Proofs.YtjnpcddbgfmpcaaGreat
open Go.Proofs.Tryz
open Go Go.ChangeShapes Go.WideShapes Go.ChangeAt Go.RowKit Go.Joins
theorem fO (w:World) (n:Nat) (hn:n≤1099511627776) :
 ∃w',(Instr.makeSlice 29 (.int .i64 (n:Int)) (.int .i64 (n:Int))).run prog w=.ok (.slice (some ⟨w.heap.size,0,none⟩) n n) w'∧jX w' (.slice (some ⟨w.heap.size,0,none⟩) n n) (kH n)∧jB w w':=by
 obtain⟨i0,hi,hz0,hz1,hz2⟩:=ZJ
 obtain⟨w',hr,ho,hg⟩:=run_make_full (P:=prog) w w.heap.size 29 5 i0 (.int .u8 0) 1 underlying29 hi hz0 hz1 .i64 .i64 n (by rw[hz2];omega) (by unfold maxLen;omega) (Nat.le_refl _)
 refine⟨w',hr,?_,⟨hg.os,hg.tape,hg.output,hg.size,fun k hk=>hg.block k hk (by simp)⟩⟩
 have e:(madeCells (Value.int .u8 0).cells (n*1)).toList=Lib.byteCells (kH n):=by
  show (madeCells #[Value.int .u8 0] (n*1)).toList=_
  rw[Nat.mul_one,toList_madeCells_one]
  simp[Lib.byteCells,kH]
 rw[e] at ho
 have e2:(kH n).length=n:=kW n
 have:=jX.of_own (l:=kH n) (v:=.slice (some ⟨w.heap.size,0,none⟩) n n) (w:=w') (B:=w.heap.size) (t:=5) (by rw[e2];exact ho)
 exact this
theorem dF {P:Program} (w:World) {o:Oper} {a:Act} {K:Act→World→Prop} {Q:Exit→Act→World→Prop} (t:TypeId) (l c:Operand)
 (ho:o.op=.makeSlice t l c) (vl vc:Value) (hl:a.eval l=vl) (hc:a.eval c=vc) (v':Value) (w':World) (hr:(Instr.makeSlice t vl vc).run P w=.ok v' w') (h:K (a.put o.dst v') w'):o.wp P a w K Q:=by
 unfold Oper.wp execOp
 simp only[ho,Sem.run_bind,Sem.run_pure,Result.andThen_ok,hl,hc,hr,Sem.run_map,Functor.map]
 exact h
theorem V0 {o:Oper} {a:Act} {K:Act→World→Prop} {Q:Exit→Act→World→Prop} (w:World) (l c:Operand) (ho:o.op=.makeSlice 29 l c) (n:Nat) (hl:a.eval l=.int .i64 n) (hc:a.eval c=.int .i64 n) (hn:n≤1099511627776)
 (h:∀v w',jX w' v (kH n)→jB w w'→K (a.put o.dst v) w'):o.wp prog a w K Q:=by
 obtain⟨w3,hr,hv,hg⟩:=fO w n hn
 exact dF w _ _ _ ho _ _ hl hc _ _ hr (h _ _ hv hg)
theorem fP {B:Nat} {w:World} {p:Nat} {o:Option Nat} {most:Int} (s:St) (x:Int) (a b:Addr) (ca:w.cell? a=some (jF p)) (cb:w.cell? b=some (.int .i64 x))
 (h:kL B w p o s.1 most s.2) (hB:B≤w.heap.size) (hl:(s.1.length:Int)≤most) (hm1:most≤1048576) (hx:isW x=true) :
 Calls prog 123 #[.pointer (some a),.pointer (some b)] w fun r w'=>r=.returned (.tuple #[])∧jY B w w' p o most (jH most x s):=by
 have HB:=zh h
 have HX:=zh hx
 have hx8:1≤x∧x≤8:=by rcases kC hx with rfl | rfl | rfl | rfl<;>decide
 obtain⟨x0,x1⟩:=hx8
 have hp:=padN_lt (l:=s.1) hx
 have hm0:0≤(s.1.length:Int) % x:=Int.emod_nonneg _ (by omega)
 have hm2:(s.1.length:Int) % x < x:=Int.emod_lt_of_pos _ (by omega)
 have HP:=zh hp
 have hp1:=hp.1
 clear h hx hp
 have e1:((s.1.length:Int)).tmod x=(s.1.length:Int) % x:=Int.tmod_eq_emod_of_nonneg (by omega)
 have e2:(x - (s.1.length:Int) % x).tmod x=(kV s.1 x:Int):=by rw[Int.tmod_eq_emod_of_nonneg (by omega)];exact HP.out.2.symm
 have e3:IntKind.i64.wrap (x - (s.1.length:Int) % x)=x - (s.1.length:Int) % x:=by rw[IntKind.wrap_i64];omega
 have hx0:¬(x=0):=by omega
 go_enter func123,ntmps123
 refine vN jB [[],[],[],[2],[],[3,4],[1,5],[],[6,7],[8],[0,9]] [[(3,1),(4,2),(5,3),(6,4),(7,5),(8,6),(9,7),(10,8),(11,9)],[(2,0),(4,2),(5,3),(6,4),(7,5),(9,7),(10,8),(11,9),(12,10)],[(2,0),(3,1),(6,4),(7,5),(8,6),(9,7),(10,8),(11,9),(12,10)],[(2,0),(3,1),(4,2),(6,4),(8,6),(9,7),(10,8),(11,9),(12,10)],[(2,0),(3,1),(4,2),(5,3),(8,6),(9,7),(10,8),(11,9),(12,10)],[(2,0),(3,1),(4,2),(5,3),(6,4),(9,7),(10,8),(11,9),(12,10)],[(2,0),(3,1),(4,2),(5,3),(6,4),(7,5),(9,7),(11,9),(12,10)],[(2,0),(3,1),(4,2),(5,3),(6,4),(7,5),(8,6),(11,9),(12,10)],[(2,0),(3,1),(4,2),(5,3),(6,4),(7,5),(8,6),(9,7),(12,10)],[(2,0),(3,1),(4,2),(5,3),(6,4),(7,5),(8,6),(9,7),(10,8)],[(2,0),(3,1),(4,2),(5,3),(6,4),(7,5),(8,6),(9,7),(10,8),(11,9)]]
  [Is (jF p),Is (.int .i64 x),Is (jF p),Is (.int .i64 (s.1.length:Int)),Is (.int .i64 x),Is (.int .i64 ((s.1.length:Int) % x)),Is (.int .i64 (x - (s.1.length:Int) % x)),Is (.int .i64 x),Is (.int .i64 (kV s.1 x:Int)),fun v w=>jX w v (kH (kV s.1 x))]
  zk jB.trans jB.refl (jB.refl _).drew zk ⟨jI,jI,jI,jI,jI,jI,jI,jI,jI,fun _ _ _ hr h=>jX.grew h hr,trivial⟩ rfl ⟨?_,?_,?_,?_,?_,?_,?_,?_,?_,?_,trivial⟩ ?_ rfl
 ·intro y w2 hG hD K hK
  have dca:=hG.cell ca
  have dcb:=hG.cell cb
  exact zsr
 ·intro y w2 hG hD K hK
  have dca:=hG.cell ca
  have dcb:=hG.cell cb
  exact zsr
 ·intro y w2 hG hD K hK
  have dca:=hG.cell ca
  have dcb:=hG.cell cb
  exact zsr
 ·intro y w2 hG hD K hK
  simp only[jN,zq4,zq5,Is,and_true] at hD
  simp only[jA,Act.put,zq1,zq2,zq3,zq4,zq5,Is] at hK⊢
  simp only[hD] at hK⊢
  clear hD
  refine jG ?_
  go_simp
  refine (yN (HB.out.grew hG)).mono ?_
  rintro r w3 ⟨rfl,rfl⟩
  exact hK _ _ _ rfl (jB.refl _) rfl
 ·intro y w2 hG hD K hK
  have dca:=hG.cell ca
  have dcb:=hG.cell cb
  exact zsr
 ·exact zst
 ·exact zst
 ·intro y w2 hG hD K hK
  have dca:=hG.cell ca
  have dcb:=hG.cell cb
  exact zsr
 ·exact zst
 ·intro y w2 hG hD K hK
  simp only[jN,zq4,zq5,Is,and_true] at hD
  simp only[jA,Act.put,zq1,zq2,zq3,zq4,zq5,Is] at hK⊢
  simp only[hD] at hK⊢
  clear hD
  refine jG ?_
  refine V0 w2 _ _ rfl (kV s.1 x) rfl rfl (by omega) ?_
  intro v w3 hv hg
  exact hK _ _ _ rfl hg hv
 ·intro y w2 hG hF K hK
  simp only[z6,Is,and_true,Nat.reduceAdd] at hF
  have h0:=hF.1
  have h1:=hF.2.1
  have h2:=hF.2.2.1
  have h3:=hF.2.2.2.1
  have h4:=hF.2.2.2.2.1
  have h5:=hF.2.2.2.2.2.1
  have h6:=hF.2.2.2.2.2.2.1
  have h7:=hF.2.2.2.2.2.2.2.1
  have h8:=hF.2.2.2.2.2.2.2.2.1
  have h9:=hF.2.2.2.2.2.2.2.2.2
  clear hF
  simp only[qG]
  simp only[jA,Act.put,zq1,zq2,zq3,zq4,zq5,Is] at hK⊢
  rw[h0,h1,h2,h3,h4,h5,h6,h7,h8]
  clear h0 h1 h2 h3 h4 h5 h6 h7 h8
  refine jG ?_
  go_simp
  refine (putT s (HB.out.grew hG) (Nat.le_trans hB hG.size) hl hm1 h9 (by rw[kW];omega)).mono ?_
  rintro r w5 ⟨rfl,ht⟩
  refine hK _ _ ?_
  have HT:=zh (jY.after hG ht)
  clear ht
  go_wp2
  go_end0
  exact⟨rfl,by rw[jH,if_pos HX.out];exact HT.out⟩
theorem qU {B:Nat} {w:World} {p:Nat} {o:Option Nat} {most:Int} (s:St) (x:Int) (h:kL B w p o s.1 most s.2) (hB:B≤w.heap.size) (hl:(s.1.length:Int)≤most) (hm1:most≤1048576) :
 Calls prog 68 #[jF p,.int .i64 x] w fun r w'=>r=.returned (.tuple #[])∧jY B w w' p o most (jH most x s):=by
 have HB:=zh h
 clear h
 go_enter func68,ntmps68
 go_wp2_with fail
 have G:jB w ((w.alloc (.cells #[jF p] 45)).alloc (.cells #[.int .i64 x] 3)):=((jB.refl w).alloc _).alloc _
 refine (dC s x _ _ (HB.out.grew G) (jH most x s) (fun hx=>by rw[jH,if_neg (by simp[hx])]) (fun _=>enters_of func123 zk rfl _ _) (fun hx=>fP s x _ _ (by go_simp) (by go_simp) (HB.out.grew G) (Nat.le_trans hB G.size) hl hm1 hx)).mono ?_
 rintro r w5 ⟨rfl,ht⟩
 have HT:=zh (jY.after G ht)
 clear ht G
 go_wp2
 go_end0
 exact⟨rfl,HT.out⟩
theorem gX (w:World) (lv:Value) (ss:List ByteArray) (hs:KJ w lv ss) (hsl:ss.length≤1048576) (hss:zB ss≤1073741824) :
 Calls prog 129 #[lv] w fun r w'=>r=.returned (.int .i64 (zB ss))∧w'=w:=by
 obtain⟨a,c,rfl,j4⟩:=hs.form
 have HC:=zh j4
 clear hs j4
 go_enter func129,ntmps129
 go_wp2_with fail
 go_loopw [2,4,7] (fun t _ i wr=>wr=w∧∃k:Nat,k≤ss.length∧i=.int .i64 k∧∃z:Nat,t=.int .i64 z∧Hid (z=zB (ss.take k))) (fun _ _ i _=>ss.length - (intOf i).toNat)
 case atStart=>exact⟨rfl,0,Nat.zero_le _,rfl,0,rfl,rfl⟩
 case round=>
  obtain⟨rfl,k,hk,rfl,z,rfl,HZ⟩:=hrel
  have hz:z≤1073741824:=by rw[HZ.out];have:=JS ss k;omega
  by_cases hlt:k < ss.length
  ·obtain⟨bl,off,rfl,hc⟩:=HC.out k ss[k] (List.getElem?_eq_getElem hlt)
   have hz2:ss[k].size≤1073741824:=by have:=JR ss k hlt;have:=JS ss (k+1);omega
   have HN:Hid (z+ss[k].size=zB (ss.take (k+1))):=by show _=_;rw[JR ss k hlt,HZ.out]
   generalize ss[k]=sk at *
   go_wp2
   go_roundw
   case rel=>exact⟨trivial,k+1,by omega,by go_num,z+sk.size,by go_num,HN⟩
   case measure=>simp[intOf];omega
  ·have e:k=ss.length:=by omega
   have HE:Hid (z=zB ss):=by show _=_;rw[HZ.out,e,List.take_length]
   clear HZ e
   go_wp2
   go_ret
   exact⟨by rw[← HE.out];rfl,rfl⟩
theorem KZ (most:Int) (l y:List UInt8) (hf:(l.length:Int)+y.length≤most):j7 most y (l,0)=(l++y,0):=by
 show (KE l y most 0,ZU l y most 0)=_
 unfold KE ZU
 have h1:((0:Int)=0∧(y.length:Int)≤most - l.length):=⟨rfl,by omega⟩
 have h2:¬((0:Int)=0∧¬(y.length:Int)≤most - l.length):=fun h=>h.2 (by omega)
 rw[if_pos h1,if_neg h2]
theorem dG {B:Nat} {w:World} {p:Nat} {o:Option Nat} {most:Int} (s:St) (lv:Value) (ss:List ByteArray) (h:kL B w p o s.1 most s.2) (hB:B≤w.heap.size) (hl:(s.1.length:Int)≤most) (hm1:most≤1048576)
 (hs:KJ w lv ss) (hsl:ss.length≤1048576) (hss:zB ss≤1073741824) (hap:∀ad n c,lv=.slice (some ad) n c→¬y6 p o ad.block) :
 Calls prog 72 #[jF p,lv] w fun r w'=>r=.returned (.tuple #[])∧jY B w w' p o most (j7 most (jS ss) s):=by
 have HB:=zh h
 have HS:=zh hs
 obtain⟨a,c,rfl,j4⟩:=hs.form
 have HC:=zh j4
 have HA:=zh hap
 have hb:=h
 obtain⟨_,v,h1,h2,_⟩:=hb
 obtain⟨c0,c1,c2,c3⟩:=yP h1
 have hmm:IntKind.i64.wrap (most - (s.1.length:Int))=most - (s.1.length:Int):=by rw[IntKind.wrap_i64];omega
 clear h hs j4 h1 h2 hap
 go_enter func72,ntmps72
 go_wp2_with fail
 refine (yX HB.out).mono ?_
 rintro r w' ⟨rfl,rfl⟩
 by_cases he:s.2=0
 ·have HE:=zh he
  rw[he] at c3⊢
  clear he
  by_cases hf:(zB ss:Int)≤most - s.1.length
  ·have hdec:decide (most - (s.1.length:Int) < (zB ss:Int))=false:=by simp;omega
   have HSZ:Hid ((jS ss).length=zB ss):=JA ss
   go_wp2_with fail
   refine kI jB [[],[0],[],[2],[3],[4],[],[6],[5,7],[1,8]] [[(12,2),(13,3),(14,4),(15,5),(16,6),(17,7),(18,8),(19,9)],[(10,0),(12,2),(13,3),(14,4),(15,5),(16,6),(17,7),(18,8)],[(10,0),(11,1),(14,4),(15,5),(16,6),(17,7),(18,8),(19,9)],[(10,0),(11,1),(12,2),(15,5),(16,6),(17,7),(18,8),(19,9)],[(10,0),(11,1),(12,2),(13,3),(16,6),(17,7),(18,8),(19,9)],[(10,0),(11,1),(12,2),(13,3),(14,4),(16,6),(17,7),(19,9)],[(10,0),(11,1),(12,2),(13,3),(14,4),(15,5),(18,8),(19,9)],[(10,0),(11,1),(12,2),(13,3),(14,4),(15,5),(16,6),(19,9)],[(10,0),(11,1),(12,2),(13,3),(14,4),(15,5),(16,6),(17,7)],[(10,0),(11,1),(12,2),(13,3),(14,4),(15,5),(16,6),(17,7),(18,8)]] [(10,0),(11,1),(12,2),(13,3),(14,4),(15,5),(16,6),(17,7),(18,8),(19,9)]
    [Is (.slice a ss.length c),Is (.int .i64 (zB ss:Int)),Is (jF p),Is (jF p),Is (.pointer (some ⟨p,2,none⟩)),Is (.int .i64 most),Is (jF p),Is (.int .i64 (s.1.length:Int)),Is (.int .i64 (most - (s.1.length:Int))),Is (.bool false)]
    zk jB.trans jB.refl (jB.refl _).drew zk ⟨jI,jI,jI,jI,jI,jI,jI,jI,jI,jI,trivial⟩ ⟨?_,?_,?_,?_,?_,?_,?_,?_,?_,?_,trivial⟩ rfl ?_
   ·exact zst
   ·intro y w2 hG hD K hK
    simp only[jN,zq4,zq5,Is,and_true] at hD
    simp only[jA,Act.put,zq1,zq2,zq3,zq4,zq5,Is] at hK⊢
    simp only[hD] at hK⊢
    clear hD
    refine jG ?_
    go_simp
    refine (gX w2 _ ss (HS.out.grew hG) hsl hss).mono ?_
    rintro r w3 ⟨rfl,rfl⟩
    exact hK _ _ _ rfl (jB.refl _) rfl
   ·exact zst
   ·exact zst
   ·exact zst
   ·intro y w2 hG hD K hK
    have dc2:=hG.cell c2
    exact zsr
   ·exact zst
   ·intro y w2 hG hD K hK
    simp only[jN,zq4,zq5,Is,and_true] at hD
    simp only[jA,Act.put,zq1,zq2,zq3,zq4,zq5,Is] at hK⊢
    simp only[hD] at hK⊢
    clear hD
    refine jG ?_
    go_simp
    refine (yN (HB.out.grew hG)).mono ?_
    rintro r w3 ⟨rfl,rfl⟩
    exact hK _ _ _ rfl (jB.refl _) rfl
   ·exact zst
   ·exact zst
   ·intro y w2 hG hF
    simp only[z6,Is,and_true,Nat.reduceAdd] at hF
    have h0:=hF.1
    have h1:=hF.2.1
    have h2:=hF.2.2.1
    have h3:=hF.2.2.2.1
    have h4:=hF.2.2.2.2.1
    have h5:=hF.2.2.2.2.2.1
    have h6:=hF.2.2.2.2.2.2.1
    have h7:=hF.2.2.2.2.2.2.2.1
    have h8:=hF.2.2.2.2.2.2.2.2.1
    have h9:=hF.2.2.2.2.2.2.2.2.2
    clear hF
    simp only[jA,Act.put,zq1,zq2,zq3,zq4,zq5,Is]
    rw[h0,h1,h2,h3,h4,h5,h6,h7,h8,h9]
    clear h0 h1 h2 h3 h4 h5 h6 h7 h8 h9
    clear c0 c1 c2 c3 hmm hdec
    go_wp2_with fail
    go_loopw [6,26] (fun _ i wr=>∃k:Nat,k≤ss.length∧i=.int .i64 k∧Hid (jY B w' wr p o most (s.1++jS (ss.take k),0))) (fun _ i _=>ss.length - (intOf i).toNat)
    case atStart=>
     refine⟨0,Nat.zero_le _,rfl,?_⟩
     show jY _ _ _ _ _ _ _
     refine jY.after hG (jY.refl ?_)
     have h5:=HB.out.grew hG
     rw[HE.out] at h5
     simpa [jS] using h5
    case round=>
     obtain⟨k,hk,rfl,HW⟩:=hrel
     by_cases hlt:k < ss.length
     ·obtain⟨bl,off,rfl,hc0⟩:=HC.out k ss[k] (List.getElem?_eq_getElem hlt)
      have hc:wr.cell? ⟨bl,off+k,none⟩=some (.string ss[k]):=by
       obtain⟨o',_,_,hm⟩:=HW.out
       exact hm.cell hc0 (HA.out ⟨bl,off,none⟩ _ _ rfl)
      have hz2:ss[k].size≤1073741824:=by have:=JR ss k hlt;have:=JS ss (k+1);omega
      obtain⟨bv,w3,hr,hv,hg⟩:=bX wr ss[k] (by omega)
      have j9:(jS (ss.take k)).length+(ss[k].data.toList).length≤zB ss:=by rw[JA];have:=JR ss k hlt;have:=JS ss (k+1);have e9:(ss[k].data.toList).length=ss[k].size:=rfl;omega
      have HL:=zh j9
      have HN:Hid (jS (ss.take (k+1))=jS (ss.take k)++ss[k].data.toList):=dE ss k hlt
      have HV:=zh (And.intro hv hg)
      have hw3:=hg.size
      have hBr:B≤wr.heap.size:=by obtain⟨o',_,_,hm⟩:=HW.out;have:=hm.size;omega
      clear hv hg j9 hc0
      generalize ss[k]=sk at *
      have hdo:Calls prog 124 #[jF p,bv] w3 fun r w''=>r=.returned (.tuple #[])∧jY B w' w'' p o most (s.1++jS (ss.take (k+1)),0):=by
       obtain⟨o',k1,k2,k3⟩:=HW.out
       have hL:=HL.out
       refine (putT (s.1++jS (ss.take k),0) (k1.grew HV.out.2) (by omega) (by simp;omega) hm1 HV.out.1 (by omega)).mono ?_
       rintro r w'' ⟨rfl,ht⟩
       rw[KZ _ _ _ (by rw[List.length_append];omega)] at ht
       obtain⟨o2,t1,t2,t3⟩:=jY.after HV.out.2 ht
       exact⟨rfl,o2,by rw[HN.out,← List.append_assoc];exact t1,k2.trans t2 k3.size,k3.own k2 t3⟩
      have HD:=zh hdo
      have he38:∀args w,(callFunc 124 args).run prog w=.ok (.enter 124 args) w:=enters_of func124 zk rfl
      clear hdo HW HV
      go_wp2_with fail
      refine HD.out.mono ?_
      rintro r w4 ⟨rfl,ht⟩
      have HT:=zh ht
      clear ht
      go_wp2
      go_roundw
      case rel=>exact⟨k+1,by omega,by go_num,HT⟩
      case measure=>simp[intOf];omega
     ·have e:k=ss.length:=by omega
      have HF:Hid (jY B w' wr p o most (j7 most (jS ss) s)):=by
       have h5:=HW.out
       rw[e,List.take_length] at h5
       have e7:j7 most (jS ss) s=(s.1++jS ss,0):=by
        unfold j7 KE ZU
        have:=HSZ.out
        rw[if_pos ⟨HE.out,by omega⟩,if_neg (fun h=>h.2 (by omega)),HE.out]
       show jY _ _ _ _ _ _ _
       rw[e7];exact h5
      clear HW
      go_wp2
      go_end0
      exact⟨rfl,HF.out⟩
  ·have hdec:decide (most - (s.1.length:Int) < (zB ss:Int))=true:=by simp;omega
   have HF:Hid (j7 most (jS ss) s=ZE 5 s):=by
    show _=_
    unfold j7 ZE KE ZU kF
    have:=JA ss
    rw[if_neg (fun h=>by have:=h.2;omega),if_pos ⟨HE.out,fun h=>by omega⟩,if_pos HE.out]
   go_wp2_with fail
   refine kI jB [[],[0],[],[2],[3],[4],[],[6],[5,7],[1,8]] [[(12,2),(13,3),(14,4),(15,5),(16,6),(17,7),(18,8),(19,9)],[(10,0),(12,2),(13,3),(14,4),(15,5),(16,6),(17,7),(18,8)],[(10,0),(11,1),(14,4),(15,5),(16,6),(17,7),(18,8),(19,9)],[(10,0),(11,1),(12,2),(15,5),(16,6),(17,7),(18,8),(19,9)],[(10,0),(11,1),(12,2),(13,3),(16,6),(17,7),(18,8),(19,9)],[(10,0),(11,1),(12,2),(13,3),(14,4),(16,6),(17,7),(19,9)],[(10,0),(11,1),(12,2),(13,3),(14,4),(15,5),(18,8),(19,9)],[(10,0),(11,1),(12,2),(13,3),(14,4),(15,5),(16,6),(19,9)],[(10,0),(11,1),(12,2),(13,3),(14,4),(15,5),(16,6),(17,7)],[(10,0),(11,1),(12,2),(13,3),(14,4),(15,5),(16,6),(17,7),(18,8)]] [(10,0),(11,1),(12,2),(13,3),(14,4),(15,5),(16,6),(17,7),(18,8),(19,9)]
    [Is (.slice a ss.length c),Is (.int .i64 (zB ss:Int)),Is (jF p),Is (jF p),Is (.pointer (some ⟨p,2,none⟩)),Is (.int .i64 most),Is (jF p),Is (.int .i64 (s.1.length:Int)),Is (.int .i64 (most - (s.1.length:Int))),Is (.bool true)]
    zk jB.trans jB.refl (jB.refl _).drew zk ⟨jI,jI,jI,jI,jI,jI,jI,jI,jI,jI,trivial⟩ ⟨?_,?_,?_,?_,?_,?_,?_,?_,?_,?_,trivial⟩ rfl ?_
   ·exact zst
   ·intro y w2 hG hD K hK
    simp only[jN,zq4,zq5,Is,and_true] at hD
    simp only[jA,Act.put,zq1,zq2,zq3,zq4,zq5,Is] at hK⊢
    simp only[hD] at hK⊢
    clear hD
    refine jG ?_
    go_simp
    refine (gX w2 _ ss (HS.out.grew hG) hsl hss).mono ?_
    rintro r w3 ⟨rfl,rfl⟩
    exact hK _ _ _ rfl (jB.refl _) rfl
   ·exact zst
   ·exact zst
   ·exact zst
   ·intro y w2 hG hD K hK
    have dc2:=hG.cell c2
    exact zsr
   ·exact zst
   ·intro y w2 hG hD K hK
    simp only[jN,zq4,zq5,Is,and_true] at hD
    simp only[jA,Act.put,zq1,zq2,zq3,zq4,zq5,Is] at hK⊢
    simp only[hD] at hK⊢
    clear hD
    refine jG ?_
    go_simp
    refine (yN (HB.out.grew hG)).mono ?_
    rintro r w3 ⟨rfl,rfl⟩
    exact hK _ _ _ rfl (jB.refl _) rfl
   ·exact zst
   ·exact zst
   ·intro y w2 hG hF
    simp only[z6,Is,and_true,Nat.reduceAdd] at hF
    have h0:=hF.1
    have h1:=hF.2.1
    have h2:=hF.2.2.1
    have h3:=hF.2.2.2.1
    have h4:=hF.2.2.2.2.1
    have h5:=hF.2.2.2.2.2.1
    have h6:=hF.2.2.2.2.2.2.1
    have h7:=hF.2.2.2.2.2.2.2.1
    have h8:=hF.2.2.2.2.2.2.2.2.1
    have h9:=hF.2.2.2.2.2.2.2.2.2
    clear hF
    simp only[jA,Act.put,zq1,zq2,zq3,zq4,zq5,Is]
    rw[h0,h1,h2,h3,h4,h5,h6,h7,h8,h9]
    clear h0 h1 h2 h3 h4 h5 h6 h7 h8 h9
    clear c0 c1 c2 c3 hmm hdec
    have h5:=HB.out.grew hG
    have H5:=zh h5
    have HG:=zh hG
    clear h5 hG
    go_wp2_with fail
    refine (failT s 5 H5.out).mono ?_
    rintro r w5 ⟨rfl,ht⟩
    have HT:=zh (jY.after HG.out ht)
    clear ht
    go_wp2
    refine bodyPost_ret (results_none rfl _ _ _) rfl ?_
    exact⟨rfl,by rw[HF.out];exact HT.out⟩
 ·have HF:Hid (j7 most (jS ss) s=s):=by
   show _=_
   obtain⟨l,e⟩:=s
   unfold j7 KE ZU
   rw[if_neg (fun h=>he h.1),if_neg (fun h=>he h.1)]
  have hne:(s.2 != 0)=true:=by simpa using he
  go_wp2
  refine bodyPost_ret (results_none rfl _ _ _) rfl ?_
  exact⟨rfl,by rw[HF.out];exact jY.refl HB.out⟩
def gY:ByteArray:=⟨#[120]⟩
theorem mE (w:World) (ss:List ByteArray) (t:TypeId):KJ (w.alloc (.cells (ss.map Value.string).toArray t)) (.slice (some ⟨w.heap.size,0,none⟩) ss.length ss.length) ss:=by
 refine⟨_,_,rfl,fun i s hs=>⟨_,_,rfl,?_⟩⟩
 rw[cell_of_row _ _ _ _ _ _ (heap_alloc_new _ _),Nat.zero_add]
 simp[hs]
theorem kL.lt {B:Nat} {w:World} {p:Nat} {o:Option Nat} {l:List UInt8} {most e:Int} (h:kL B w p o l most e):∀k,y6 p o k→k < w.heap.size:=by
 obtain⟨_,v,h1,h2,h3,_⟩:=h
 intro k hk
 rcases hk with rfl|hk
 ·exact (Array.getElem?_eq_some_iff.1 h1).1
 ·exact (World.ownsRow.lt h2 k (by rw[h3,← hk])).2
theorem hs3 {a:ByteArray} (h:a.size≤40):zB [a,gY,a]≤1073741824:=by
 have e:gY.size=1:=rfl
 simp[zB,e];omega
theorem gZ {B:Nat} {w:World} {p:Nat} {o:Option Nat} {most:Int} (s:St) (ss:List ByteArray) (h:kL B w p o s.1 most s.2) (hB:B≤w.heap.size) (hl:(s.1.length:Int)≤most) (hm1:most≤1048576)
 (hsl:ss.length≤1048576) (hss:zB ss≤1073741824) :
 Calls prog 72 #[jF p,.slice (some ⟨w.heap.size,0,none⟩) ss.length ss.length] (w.alloc (.cells (ss.map Value.string).toArray 9)) fun r w'=>r=.returned (.tuple #[])∧jY B w w' p o most (j7 most (jS ss) s):=by
 have hg:=(jB.refl w).alloc (.cells (ss.map Value.string).toArray 9)
 refine (dG s _ ss (h.grew hg) (Nat.le_trans hB hg.size) hl hm1 (mE w ss _) hsl hss ?_).mono fun r w' ⟨hr,ht⟩=>⟨hr,ht.after hg⟩
 intro ad n c he hk
 injection he with e1 _ _
 injection e1 with e1
 subst e1
 exact absurd (h.lt _ hk) (Nat.lt_irrefl _)
theorem ZY {B:Nat} {w:World} {p:Nat} {o:Option Nat} {most:Int} (s:St) (x:ByteArray) (k:Nat) (hk:k=w.heap.size) (h:kL B w p o s.1 most s.2) (hB:B≤w.heap.size) (hl:(s.1.length:Int)≤most) (hm1:most≤1048576)
 (hss:zB [x]≤1073741824) :
 Calls prog 72 #[jF p,.slice (some ⟨k,0,none⟩) 1 1] (w.alloc (.cells #[.string x] 9)) fun r w'=>r=.returned (.tuple #[])∧jY B w w' p o most (j7 most (jS [x]) s):=by
 subst hk
 exact gZ s [x] h hB hl hm1 (by simp) hss
theorem mF {B:Nat} {w:World} {p:Nat} {o:Option Nat} {most:Int} (s:St) (x y:ByteArray) (k:Nat) (hk:k=w.heap.size) (h:kL B w p o s.1 most s.2) (hB:B≤w.heap.size) (hl:(s.1.length:Int)≤most) (hm1:most≤1048576)
 (hss:zB [x,y]≤1073741824) :
 Calls prog 72 #[jF p,.slice (some ⟨k,0,none⟩) 2 2] (w.alloc (.cells #[.string x,.string y] 9)) fun r w'=>r=.returned (.tuple #[])∧jY B w w' p o most (j7 most (jS [x,y]) s):=by
 subst hk
 exact gZ s [x,y] h hB hl hm1 (by simp) hss
section
variable {w0 w:World} {p:Nat} {most:Int} {s:St}
def ZZ (s:St):List UInt8:=if s.2=0 then s.1 else []
end
def leF:List UInt8→Int
 | []=>0
 | c::r=>(c.toNat:Int)+256*leF r
theorem dH (c:UInt8):∀l:List UInt8,leF (l++[c])=leF l+c.toNat*256 ^ l.length
 | []=>by simp[leF]
 | d::r=>by
  have ih:=dH c r
  simp only[List.cons_append,leF,List.length_cons,ih]
  rw[Int.mul_add,← Int.mul_assoc,Int.mul_comm 256 (c.toNat:Int),Int.mul_assoc,Int.pow_succ,Int.mul_comm 256 ((256:Int) ^ r.length)]
  omega
theorem fQ:∀l:List UInt8,0≤leF l
 | []=>by simp[leF]
 | d::r=>by have:=fQ r;simp only[leF];omega
theorem fR:∀l:List UInt8,leF l < 256 ^ l.length
 | []=>by simp[leF]
 | d::r=>by
  have:=fR r
  have hd:=d.toNat_lt
  simp only[leF,List.length_cons]
  rw[Int.pow_succ]
  omega
theorem mG (l:List UInt8) (k:Nat) (h:k < l.length):leF (l.take (k+1))=leF (l.take k)+l[k].toNat*256 ^ k:=by
 rw[List.take_succ_eq_append_getElem h,dH,List.length_take,Nat.min_eq_left (by omega)]
theorem g9 (b k:Nat) (hk:k < 8) (hb:b < 256):b*256 ^ k+256 ^ k≤18446744073709551616:=by
 have h1:(b+1)*256 ^ k≤256*256 ^ k:=Nat.mul_le_mul_right _ hb
 have h2:256*256 ^ k=256 ^ (k+1):=by rw[Nat.pow_succ,Nat.mul_comm]
 have h3:256 ^ (k+1)≤256 ^ 8:=Nat.pow_le_pow_right (by decide) hk
 rw[Nat.add_mul] at h1
 have:(256:Nat) ^ 8=18446744073709551616:=by decide
 omega
theorem or_lem (u:Int) (b k:Nat) (hk:k < 8) (u0:0≤u) (hu:u < 256 ^ k) (hb:b < 256):bits .or .u64 u ((b:Int)*256 ^ k)=u+b*256 ^ k:=by
 obtain⟨n,rfl⟩:=Int.eq_ofNat_of_zero_le u0
 have hx:((b:Int)*256 ^ k)=((b*256 ^ k:Nat):Int):=by simp
 have hn:n < 256 ^ k:=by have:((n:Nat):Int) < ((256 ^ k:Nat):Int):=(by simpa using hu);exact Int.ofNat_lt.1 this
 have ht:=g9 b k hk hb
 have e:(256:Nat) ^ k=2 ^ (8*k):=by rw[Nat.pow_mul]
 rw[hx]
 unfold bits
 show IntKind.u64.wrap (((BitVec.ofInt 64 (n:Int)) ||| (BitVec.ofInt 64 ((b*256 ^ k:Nat):Int))).toNat:Int)=_
 rw[BitVec.ofInt_natCast,BitVec.ofInt_natCast,BitVec.toNat_or,BitVec.toNat_ofNat,BitVec.toNat_ofNat,Nat.mod_eq_of_lt (by omega),Nat.mod_eq_of_lt (by omega),Nat.or_comm]
 rw[show b*256 ^ k=2 ^ (8*k)*b by rw[e,Nat.mul_comm],← Nat.two_pow_add_eq_or_of_lt (by rw[← e];exact hn)]
 rw[← e,Nat.mul_comm (256 ^ k) b]
 simp[IntKind.wrap,IntKind.bits,IntKind.signed]
 have:((b*256 ^ k+n:Nat):Int) < 18446744073709551616:=by omega
 simp at this
 rw[Int.emod_eq_of_lt (by have:(0:Int)≤((b*256 ^ k+n:Nat):Int):=Int.natCast_nonneg _;simpa using this) this]
 omega
theorem shl_lem (b k:Nat) (hk:k < 8) (hb:b < 256):IntKind.u64.wrap ((b:Int)*2 ^ (8*(k:Int)).toNat)=(b:Int)*256 ^ k:=by
 have ht:=g9 b k hk hb
 rw[show (8*(k:Int)).toNat=8*k by omega,Int.pow_mul]
 have:((b*256 ^ k:Nat):Int) < 18446744073709551616:=by have:=Nat.pos_of_ne_zero (show (256:Nat) ^ k≠0 by simp);omega
 simp at this
 simp[IntKind.wrap,IntKind.bits,IntKind.signed]
 exact Int.emod_eq_of_lt (by have:(0:Int)≤((b*256 ^ k:Nat):Int):=Int.natCast_nonneg _;simpa using this) this
theorem w8_lem (k:Nat) (hk:k < 8):IntKind.i64.wrap (8*(k:Int))=8*k:=by
 simp[IntKind.wrap,IntKind.bits,IntKind.signed];omega
theorem wb_lem (b:Nat) (hb:b < 256):IntKind.u64.wrap (b:Int)=b:=by
 simp[IntKind.wrap,IntKind.bits,IntKind.signed];omega
theorem iY {w:World} (sv:Value) (l:List UInt8) (hb:jX w sv l) (j9:l.length≤8) (pa:Nat) (hp:w.heap[pa]? = some (.cells #[.int .u64 0] 32)) (hap:∀ad n c,sv=.slice (some ad) n c→ad.block≠pa) :
 Calls prog 82 #[sv,.pointer (some ⟨pa,0,none⟩)] w fun r w'=>r=.returned (.int .i64 0)∧w'.heap[pa]? = some (.cells #[.int .u64 (leF l)] 32)∧Moved (fun b=>b=pa) w w':=by
 have HB0:=zh hb
 have HA:=zh hap
 obtain⟨a,c,rfl,j4⟩:=hb
 clear hap
 go_enter func82,ntmps82
 go_wp2_with fail
 go_loopw [4,5,8] (fun _ _ i wr=>∃k:Nat,k≤l.length∧i=.int .i64 k∧Hid (wr.heap[pa]? = some (.cells #[.int .u64 (leF (l.take k))] 32)∧Moved (fun b=>b=pa) w wr)) (fun _ _ i _=>l.length - (intOf i).toNat)
 case atStart=>exact⟨0,Nat.zero_le _,rfl,hp,Moved.refl _ _⟩
 case round=>
  obtain⟨k,hk,rfl,HW⟩:=hrel
  by_cases hlt:k < l.length
  ·obtain⟨bl,off,rfl,q0⟩:=j4.2.2 k l[k] (List.getElem?_eq_getElem hlt)
   have d0:=HW.out.2.cell q0 (HA.out ⟨bl,off,none⟩ _ _ rfl)
   have HSN:=zh (mG l k hlt)
   have hhi:=fR (l.take k)
   have hlo:=fQ (l.take k)
   have jL:=HW.out.1
   generalize leF (l.take k)=u at *
   generalize l[k]=b at *
   have g0:wr.cell? ⟨pa,0,none⟩=some (.int .u64 u):=by simp[World.cell?,jL]
   have f0:=jE jL 0
   have HROW:=zh jL
   have hk8:k < 8:=by omega
   have hb:b.toNat < 256:=b.toNat_lt
   rw[List.length_take,Nat.min_eq_left (Nat.le_of_lt hlt)] at hhi
   clear q0 jL
   go_wp2_with fail
   refine vN jB [[],[],[1],[],[3],[2,4],[0,5],[6]] [[(14,1),(15,2),(16,3),(17,4),(18,5)],[(13,0),(16,3),(17,4),(18,5),(19,6)],[(13,0),(14,1),(16,3),(17,4),(19,6)],[(13,0),(14,1),(15,2),(18,5),(19,6)],[(13,0),(14,1),(15,2),(16,3),(19,6)],[(13,0),(14,1),(15,2),(16,3),(17,4)],[(13,0),(14,1),(15,2),(16,3),(17,4),(18,5)],[(13,0),(14,1),(15,2),(16,3),(17,4),(18,5),(19,6)]]
    [Is (.int .u64 u),Is (.int .u8 b.toNat),Is (.int .u64 b.toNat),Is (.int .i64 k),Is (.int .i64 (8*k:Int)),Is (.int .u64 (b.toNat*256 ^ k:Int)),Is (.int .u64 (u+b.toNat*256 ^ k:Int))]
    zk jB.trans jB.refl (jB.refl _).drew zk ⟨jI,jI,jI,jI,jI,jI,jI,trivial⟩ rfl ⟨?_,?_,?_,?_,?_,?_,?_,trivial⟩ ?_ rfl
   ·intro y w2 hG hD K hK
    have dg0:=hG.cell g0
    exact zsr
   ·exact zst
   ·intro y w2 hG hD K hK
    simp only[jN,zq4,zq5,Is,and_true] at hD
    simp only[jA,Act.put,zq1,zq2,zq3,zq4,zq5,Is] at hK⊢
    simp only[hD] at hK⊢
    clear hD
    refine jG ?_
    go_simp
    exact hK _ _ _ rfl (jB.refl _) (congrArg (Value.int _) (wb_lem b.toNat hb))
   ·exact zst
   ·intro y w2 hG hD K hK
    simp only[jN,zq4,zq5,Is,and_true] at hD
    simp only[jA,Act.put,zq1,zq2,zq3,zq4,zq5,Is] at hK⊢
    simp only[hD] at hK⊢
    clear hD
    refine jG ?_
    go_simp
    exact hK _ _ _ rfl (jB.refl _) (congrArg (Value.int _) (w8_lem k hk8))
   ·intro y w2 hG hD K hK
    simp only[jN,zq4,zq5,Is,and_true] at hD
    simp only[jA,Act.put,zq1,zq2,zq3,zq4,zq5,Is] at hK⊢
    simp only[hD] at hK⊢
    clear hD
    refine jG ?_
    go_simp
    exact hK _ _ _ rfl (jB.refl _) (congrArg (Value.int _) (shl_lem b.toNat k hk8 hb))
   ·intro y w2 hG hD K hK
    simp only[jN,zq4,zq5,Is,and_true] at hD
    simp only[jA,Act.put,zq1,zq2,zq3,zq4,zq5,Is] at hK⊢
    simp only[hD] at hK⊢
    clear hD
    refine jG ?_
    go_simp
    exact hK _ _ _ rfl (jB.refl _) (congrArg (Value.int _) (or_lem u b.toNat k hk8 hlo hhi hb))
   ·intro y w2 hG hF K hK
    simp only[z6,Is,and_true,Nat.reduceAdd] at hF
    have h0:=hF.1
    have h1:=hF.2.1
    have h2:=hF.2.2.1
    have h3:=hF.2.2.2.1
    have h4:=hF.2.2.2.2.1
    have h5:=hF.2.2.2.2.2.1
    have h6:=hF.2.2.2.2.2.2
    clear hF
    simp only[qG]
    simp only[jA,Act.put,zq1,zq2,zq3,zq4,zq5,Is] at hK⊢
    rw[h0,h1,h2,h3,h4,h5,h6]
    clear h0 h1 h2 h3 h4 h5 h6
    refine jG ?_
    have dg0:=hG.cell g0
    have hr2:=hG.heap HROW.out
    have df0:=jE hr2 0
    go_simp
    refine hK _ _ ?_
    have HR2:=zh hr2
    have HG2:=zh hG
    clear hr2 hG dg0 df0
    go_wp2
    go_roundw
    case rel=>
     refine⟨k+1,by omega,by go_num,?_⟩
     show _∧_
     rw[HSN.out]
     exact⟨by have:=heap_setCell_same w2 pa 0 _ _ (.int .u64 (u+b.toNat*256 ^ k)) HR2.out;simpa using this,Moved.setCell (p:=⟨pa,0,none⟩) (HW.out.2.trans' (Moved.of_grew HG2.out)) (fun _=>rfl) _⟩
    case measure=>simp[intOf];omega
  ·have e:k=l.length:=by omega
   have hw:=HW.out
   rw[e,List.take_length] at hw
   have HF:=zh hw
   clear hw HW
   go_wp2
   go_ret
   exact⟨rfl,HF.out⟩
end Go.Proofs.YtjnpcddbgfmpcaaGreat
