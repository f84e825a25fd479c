/-
  Texts of the proof.
-/
import Derived.Test.YtjnpcddbgfmpcaaGreatDoorBMapsPBC
import Derived.Test.YtjnpcddbgfmpcaaGreatDoorBMapsPBD
set_option linter.unusedVariables false
set_option linter.unusedSimpArgs false
set_option maxHeartbeats 4000000
set_option maxRecDepth 100000
namespace Go.Proofs.YtjnpcddbgfmpcaaGreatDoor
open Go.Proofs.Tryz
open Go Go.ChangeShapes Go.WideShapes Go.ChangeAt Go.RowKit Go.Joins
theorem mJ (w:World) (n:Nat) (hn:n≤1099511627776) :
 ∃w',(Instr.makeSlice 31 (.int .i64 (n:Int)) (.int .i64 (n:Int))).run prog w=.ok (.slice (some ⟨w.heap.size,0,none⟩) n n) w'∧kB w' (.slice (some ⟨w.heap.size,0,none⟩) n n) (j6 n)∧jA w w':=by
 obtain⟨i0,hi,hz0,hz1,hz2⟩:=YV
 obtain⟨w',hr,ho,hg⟩:=run_make_full (P:=prog) w w.heap.size 31 5 i0 (.int .u8 0) 1 underlying31 hi hz0 hz1 .i64 .i64 n (by rw[hz2];omega) (by unfold maxLen;omega) (Nat.le_refl _)
 refine⟨w',hr,?_,⟨hg.os,hg.tape,hg.output,hg.size,fun k hk=>hg.block k hk (by simp)⟩⟩
 have e:(madeCells (Value.int .u8 0).cells (n*1)).toList=Lib.byteCells (j6 n):=by
  show (madeCells #[Value.int .u8 0] (n*1)).toList=_
  rw[Nat.mul_one,toList_madeCells_one]
  simp[Lib.byteCells,j6]
 rw[e] at ho
 have e2:(j6 n).length=n:=jX n
 have:=kB.of_own (l:=j6 n) (v:=.slice (some ⟨w.heap.size,0,none⟩) n n) (w:=w') (B:=w.heap.size) (t:=5) (by rw[e2];exact ho)
 exact this
theorem iB {P:Program} (w:World) {o:Oper} {a:Act} {K:Act→World→Prop} {Q:Exit→Act→World→Prop} (t:TypeId) (l c:Operand)
 (ho:o.op=.makeSlice t l c) (vl vc:Value) (hl:a.eval l=vl) (hc:a.eval c=vc) (v':Value) (w':World) (hr:(Instr.makeSlice t vl vc).run P w=.ok v' w') (h:K (a.put o.dst v') w'):o.wp P a w K Q:=by
 unfold Oper.wp execOp
 simp only[ho,Sem.run_bind,Sem.run_pure,Result.andThen_ok,hl,hc,hr,Sem.run_map,Functor.map]
 exact h
theorem cV {o:Oper} {a:Act} {K:Act→World→Prop} {Q:Exit→Act→World→Prop} (w:World) (l c:Operand) (ho:o.op=.makeSlice 31 l c) (n:Nat) (hl:a.eval l=.int .i64 n) (hc:a.eval c=.int .i64 n) (hn:n≤1099511627776)
 (h:∀v w',kB w' v (j6 n)→jA w w'→K (a.put o.dst v) w'):o.wp prog a w K Q:=by
 obtain⟨w3,hr,hv,hg⟩:=mJ w n hn
 exact iB w _ _ _ ho _ _ hl hc _ _ hr (h _ _ hv hg)
theorem mK {B:Nat} {w:World} {p:Nat} {o:Option Nat} {most:Int} (s:St) (x:Int) (a b:Addr) (ca:w.cell? a=some (jF p)) (cb:w.cell? b=some (.int .i64 x))
 (h:kU B w p o s.1 most s.2) (hB:B≤w.heap.size) (hl:(s.1.length:Int)≤most) (hm1:most≤1048576) (hx:isW x=true) :
 Calls prog 93 #[.pointer (some a),.pointer (some b)] w fun r w'=>r=.returned (.tuple #[])∧jZ B w w' p o most (jG most x s):=by
 have HB:=zh h
 have HX:=zh hx
 have hx8:1≤x∧x≤8:=by rcases kJ hx with rfl | rfl | rfl | rfl<;>decide
 obtain⟨x0,x1⟩:=hx8
 have hp:=QH (l:=s.1) hx
 have hm0:0≤(s.1.length:Int) % x:=Int.emod_nonneg _ (by omega)
 have hm2:(s.1.length:Int) % x < x:=Int.emod_lt_of_pos _ (by omega)
 have HP:=zh hp
 have hp1:=hp.1
 clear h hx hp
 have e1:((s.1.length:Int)).tmod x=(s.1.length:Int) % x:=Int.tmod_eq_emod_of_nonneg (by omega)
 have e2:(x - (s.1.length:Int) % x).tmod x=(j5 s.1 x:Int):=by rw[Int.tmod_eq_emod_of_nonneg (by omega)];exact HP.out.2.symm
 have e3:IntKind.i64.wrap (x - (s.1.length:Int) % x)=x - (s.1.length:Int) % x:=by rw[IntKind.wrap_i64];omega
 have hx0:¬(x=0):=by omega
 go_enter func93,ntmps93
 refine JM jA [[],[],[],[2],[],[3,4],[1,5],[],[6,7],[8],[0,9]] [[(3,1),(4,2),(5,3),(6,4),(7,5),(8,6),(9,7),(10,8),(11,9)],[(2,0),(4,2),(5,3),(6,4),(7,5),(9,7),(10,8),(11,9),(12,10)],[(2,0),(3,1),(6,4),(7,5),(8,6),(9,7),(10,8),(11,9),(12,10)],[(2,0),(3,1),(4,2),(6,4),(8,6),(9,7),(10,8),(11,9),(12,10)],[(2,0),(3,1),(4,2),(5,3),(8,6),(9,7),(10,8),(11,9),(12,10)],[(2,0),(3,1),(4,2),(5,3),(6,4),(9,7),(10,8),(11,9),(12,10)],[(2,0),(3,1),(4,2),(5,3),(6,4),(7,5),(9,7),(11,9),(12,10)],[(2,0),(3,1),(4,2),(5,3),(6,4),(7,5),(8,6),(11,9),(12,10)],[(2,0),(3,1),(4,2),(5,3),(6,4),(7,5),(8,6),(9,7),(12,10)],[(2,0),(3,1),(4,2),(5,3),(6,4),(7,5),(8,6),(9,7),(10,8)],[(2,0),(3,1),(4,2),(5,3),(6,4),(7,5),(8,6),(9,7),(10,8),(11,9)]]
  [Is (jF p),Is (.int .i64 x),Is (jF p),Is (.int .i64 (s.1.length:Int)),Is (.int .i64 x),Is (.int .i64 ((s.1.length:Int) % x)),Is (.int .i64 (x - (s.1.length:Int) % x)),Is (.int .i64 x),Is (.int .i64 (j5 s.1 x:Int)),fun v w=>kB w v (j6 (j5 s.1 x))]
  zk jA.trans jA.refl (jA.refl _).drew zk ⟨jS,jS,jS,jS,jS,jS,jS,jS,jS,fun _ _ _ hr h=>kB.grew h hr,trivial⟩ rfl ⟨?_,?_,?_,?_,?_,?_,?_,?_,?_,?_,trivial⟩ ?_ rfl
 ·intro y w2 hG hD K hK
  have dca:=hG.cell ca
  have dcb:=hG.cell cb
  exact zsr
 ·intro y w2 hG hD K hK
  have dca:=hG.cell ca
  have dcb:=hG.cell cb
  exact zsr
 ·intro y w2 hG hD K hK
  have dca:=hG.cell ca
  have dcb:=hG.cell cb
  exact zsr
 ·intro y w2 hG hD K hK
  simp only[zD,zq4,zq5,Is,and_true] at hD
  simp only[jB,Act.put,zq1,zq2,zq3,zq4,zq5,Is] at hK⊢
  simp only[hD] at hK⊢
  clear hD
  refine jL ?_
  go_simp
  refine (yY (HB.out.grew hG)).mono ?_
  rintro r w3 ⟨rfl,rfl⟩
  exact hK _ _ _ rfl (jA.refl _) rfl
 ·intro y w2 hG hD K hK
  have dca:=hG.cell ca
  have dcb:=hG.cell cb
  exact zsr
 ·exact zst
 ·exact zst
 ·intro y w2 hG hD K hK
  have dca:=hG.cell ca
  have dcb:=hG.cell cb
  exact zsr
 ·exact zst
 ·intro y w2 hG hD K hK
  simp only[zD,zq4,zq5,Is,and_true] at hD
  simp only[jB,Act.put,zq1,zq2,zq3,zq4,zq5,Is] at hK⊢
  simp only[hD] at hK⊢
  clear hD
  refine jL ?_
  refine cV w2 _ _ rfl (j5 s.1 x) rfl rfl (by omega) ?_
  intro v w3 hv hg
  exact hK _ _ _ rfl hg hv
 ·intro y w2 hG hF K hK
  simp only[yV,Is,and_true,Nat.reduceAdd] at hF
  have h0:=hF.1
  have h1:=hF.2.1
  have h2:=hF.2.2.1
  have h3:=hF.2.2.2.1
  have h4:=hF.2.2.2.2.1
  have h5:=hF.2.2.2.2.2.1
  have h6:=hF.2.2.2.2.2.2.1
  have h7:=hF.2.2.2.2.2.2.2.1
  have h8:=hF.2.2.2.2.2.2.2.2.1
  have h9:=hF.2.2.2.2.2.2.2.2.2
  clear hF
  simp only[qT]
  simp only[jB,Act.put,zq1,zq2,zq3,zq4,zq5,Is] at hK⊢
  rw[h0,h1,h2,h3,h4,h5,h6,h7,h8]
  clear h0 h1 h2 h3 h4 h5 h6 h7 h8
  refine jL ?_
  go_simp
  refine (putT s (HB.out.grew hG) (Nat.le_trans hB hG.size) hl hm1 h9 (by rw[jX];omega)).mono ?_
  rintro r w5 ⟨rfl,ht⟩
  refine hK _ _ ?_
  have HT:=zh (jZ.after hG ht)
  clear ht
  go_wp2
  go_end0
  exact⟨rfl,by rw[jG,if_pos HX.out];exact HT.out⟩
theorem vD {B:Nat} {w:World} {p:Nat} {o:Option Nat} {most:Int} (s:St) (x:Int) (h:kU B w p o s.1 most s.2) (hB:B≤w.heap.size) (hl:(s.1.length:Int)≤most) (hm1:most≤1048576) :
 Calls prog 47 #[jF p,.int .i64 x] w fun r w'=>r=.returned (.tuple #[])∧jZ B w w' p o most (jG most x s):=by
 have HB:=zh h
 clear h
 go_enter func47,ntmps47
 go_wp2_with fail
 have G:jA w ((w.alloc (.cells #[jF p] 48)).alloc (.cells #[.int .i64 x] 3)):=((jA.refl w).alloc _).alloc _
 refine (gQ s x _ _ (HB.out.grew G) (jG most x s) (fun hx=>by rw[jG,if_neg (by simp[hx])]) (fun _=>enters_of func93 zk rfl _ _) (fun hx=>mK s x _ _ (by go_simp) (by go_simp) (HB.out.grew G) (Nat.le_trans hB G.size) hl hm1 hx)).mono ?_
 rintro r w5 ⟨rfl,ht⟩
 have HT:=zh (jZ.after G ht)
 clear ht G
 go_wp2
 go_end0
 exact⟨rfl,HT.out⟩
theorem n8 (w:World) (lv:Value) (ss:List ByteArray) (hs:ZR w lv ss) (hsl:ss.length≤1048576) (hss:zH ss≤1073741824) :
 Calls prog 100 #[lv] w fun r w'=>r=.returned (.int .i64 (zH ss))∧w'=w:=by
 obtain⟨a,c,rfl,j2⟩:=hs.form
 have HC:=zh j2
 clear hs j2
 go_enter func100,ntmps100
 go_wp2_with fail
 go_loopw [2,4,7] (fun t _ i wr=>wr=w∧∃k:Nat,k≤ss.length∧i=.int .i64 k∧∃z:Nat,t=.int .i64 z∧Hid (z=zH (ss.take k))) (fun _ _ i _=>ss.length - (intOf i).toNat)
 case atStart=>exact⟨rfl,0,Nat.zero_le _,rfl,0,rfl,rfl⟩
 case round=>
  obtain⟨rfl,k,hk,rfl,z,rfl,HZ⟩:=hrel
  have hz:z≤1073741824:=by rw[HZ.out];have:=KV ss k;omega
  by_cases hlt:k < ss.length
  ·obtain⟨bl,off,rfl,hc⟩:=HC.out k ss[k] (List.getElem?_eq_getElem hlt)
   have hz2:ss[k].size≤1073741824:=by have:=KU ss k hlt;have:=KV ss (k+1);omega
   have HN:Hid (z+ss[k].size=zH (ss.take (k+1))):=by show _=_;rw[KU ss k hlt,HZ.out]
   generalize ss[k]=sk at *
   go_wp2
   go_roundw
   case rel=>exact⟨trivial,k+1,by omega,by go_num,z+sk.size,by go_num,HN⟩
   case measure=>simp[intOf];omega
  ·have e:k=ss.length:=by omega
   have HE:Hid (z=zH ss):=by show _=_;rw[HZ.out,e,List.take_length]
   clear HZ e
   go_wp2
   go_ret
   exact⟨by rw[← HE.out];rfl,rfl⟩
theorem vL (most:Int) (l y:List UInt8) (hf:(l.length:Int)+y.length≤most):kA most y (l,0)=(l++y,0):=by
 show (ZL l y most 0,QG l y most 0)=_
 unfold ZL QG
 have h1:((0:Int)=0∧(y.length:Int)≤most - l.length):=⟨rfl,by omega⟩
 have h2:¬((0:Int)=0∧¬(y.length:Int)≤most - l.length):=fun h=>h.2 (by omega)
 rw[if_pos h1,if_neg h2]
theorem iC {B:Nat} {w:World} {p:Nat} {o:Option Nat} {most:Int} (s:St) (lv:Value) (ss:List ByteArray) (h:kU B w p o s.1 most s.2) (hB:B≤w.heap.size) (hl:(s.1.length:Int)≤most) (hm1:most≤1048576)
 (hs:ZR w lv ss) (hsl:ss.length≤1048576) (hss:zH ss≤1073741824) (hap:∀ad n c,lv=.slice (some ad) n c→¬qH p o ad.block) :
 Calls prog 52 #[jF p,lv] w fun r w'=>r=.returned (.tuple #[])∧jZ B w w' p o most (kA most (jP ss) s):=by
 have HB:=zh h
 have HS:=zh hs
 obtain⟨a,c,rfl,j2⟩:=hs.form
 have HC:=zh j2
 have HA:=zh hap
 have hb:=h
 obtain⟨_,v,h1,h2,_⟩:=hb
 obtain⟨c0,c1,c2,c3⟩:=y5 h1
 have hmm:IntKind.i64.wrap (most - (s.1.length:Int))=most - (s.1.length:Int):=by rw[IntKind.wrap_i64];omega
 clear h hs j2 h1 h2 hap
 go_enter func52,ntmps52
 go_wp2_with fail
 refine (qB HB.out).mono ?_
 rintro r w' ⟨rfl,rfl⟩
 by_cases he:s.2=0
 ·have HE:=zh he
  rw[he] at c3⊢
  clear he
  by_cases hf:(zH ss:Int)≤most - s.1.length
  ·have hdec:decide (most - (s.1.length:Int) < (zH ss:Int))=false:=by simp;omega
   have HSZ:Hid ((jP ss).length=zH ss):=J6 ss
   go_wp2_with fail
   refine k8 jA [[],[0],[],[2],[3],[4],[],[6],[5,7],[1,8]] [[(12,2),(13,3),(14,4),(15,5),(16,6),(17,7),(18,8),(19,9)],[(10,0),(12,2),(13,3),(14,4),(15,5),(16,6),(17,7),(18,8)],[(10,0),(11,1),(14,4),(15,5),(16,6),(17,7),(18,8),(19,9)],[(10,0),(11,1),(12,2),(15,5),(16,6),(17,7),(18,8),(19,9)],[(10,0),(11,1),(12,2),(13,3),(16,6),(17,7),(18,8),(19,9)],[(10,0),(11,1),(12,2),(13,3),(14,4),(16,6),(17,7),(19,9)],[(10,0),(11,1),(12,2),(13,3),(14,4),(15,5),(18,8),(19,9)],[(10,0),(11,1),(12,2),(13,3),(14,4),(15,5),(16,6),(19,9)],[(10,0),(11,1),(12,2),(13,3),(14,4),(15,5),(16,6),(17,7)],[(10,0),(11,1),(12,2),(13,3),(14,4),(15,5),(16,6),(17,7),(18,8)]] [(10,0),(11,1),(12,2),(13,3),(14,4),(15,5),(16,6),(17,7),(18,8),(19,9)]
    [Is (.slice a ss.length c),Is (.int .i64 (zH ss:Int)),Is (jF p),Is (jF p),Is (.pointer (some ⟨p,2,none⟩)),Is (.int .i64 most),Is (jF p),Is (.int .i64 (s.1.length:Int)),Is (.int .i64 (most - (s.1.length:Int))),Is (.bool false)]
    zk jA.trans jA.refl (jA.refl _).drew zk ⟨jS,jS,jS,jS,jS,jS,jS,jS,jS,jS,trivial⟩ ⟨?_,?_,?_,?_,?_,?_,?_,?_,?_,?_,trivial⟩ rfl ?_
   ·exact zst
   ·intro y w2 hG hD K hK
    simp only[zD,zq4,zq5,Is,and_true] at hD
    simp only[jB,Act.put,zq1,zq2,zq3,zq4,zq5,Is] at hK⊢
    simp only[hD] at hK⊢
    clear hD
    refine jL ?_
    go_simp
    refine (n8 w2 _ ss (HS.out.grew hG) hsl hss).mono ?_
    rintro r w3 ⟨rfl,rfl⟩
    exact hK _ _ _ rfl (jA.refl _) rfl
   ·exact zst
   ·exact zst
   ·exact zst
   ·intro y w2 hG hD K hK
    have dc2:=hG.cell c2
    exact zsr
   ·exact zst
   ·intro y w2 hG hD K hK
    simp only[zD,zq4,zq5,Is,and_true] at hD
    simp only[jB,Act.put,zq1,zq2,zq3,zq4,zq5,Is] at hK⊢
    simp only[hD] at hK⊢
    clear hD
    refine jL ?_
    go_simp
    refine (yY (HB.out.grew hG)).mono ?_
    rintro r w3 ⟨rfl,rfl⟩
    exact hK _ _ _ rfl (jA.refl _) rfl
   ·exact zst
   ·exact zst
   ·intro y w2 hG hF
    simp only[yV,Is,and_true,Nat.reduceAdd] at hF
    have h0:=hF.1
    have h1:=hF.2.1
    have h2:=hF.2.2.1
    have h3:=hF.2.2.2.1
    have h4:=hF.2.2.2.2.1
    have h5:=hF.2.2.2.2.2.1
    have h6:=hF.2.2.2.2.2.2.1
    have h7:=hF.2.2.2.2.2.2.2.1
    have h8:=hF.2.2.2.2.2.2.2.2.1
    have h9:=hF.2.2.2.2.2.2.2.2.2
    clear hF
    simp only[jB,Act.put,zq1,zq2,zq3,zq4,zq5,Is]
    rw[h0,h1,h2,h3,h4,h5,h6,h7,h8,h9]
    clear h0 h1 h2 h3 h4 h5 h6 h7 h8 h9
    clear c0 c1 c2 c3 hmm hdec
    go_wp2_with fail
    go_loopw [6,26] (fun _ i wr=>∃k:Nat,k≤ss.length∧i=.int .i64 k∧Hid (jZ B w' wr p o most (s.1++jP (ss.take k),0))) (fun _ i _=>ss.length - (intOf i).toNat)
    case atStart=>
     refine⟨0,Nat.zero_le _,rfl,?_⟩
     show jZ _ _ _ _ _ _ _
     refine jZ.after hG (jZ.refl ?_)
     have h5:=HB.out.grew hG
     rw[HE.out] at h5
     simpa [jP] using h5
    case round=>
     obtain⟨k,hk,rfl,HW⟩:=hrel
     by_cases hlt:k < ss.length
     ·obtain⟨bl,off,rfl,hc0⟩:=HC.out k ss[k] (List.getElem?_eq_getElem hlt)
      have hc:wr.cell? ⟨bl,off+k,none⟩=some (.string ss[k]):=by
       obtain⟨o',_,_,hm⟩:=HW.out
       exact hm.cell hc0 (HA.out ⟨bl,off,none⟩ _ _ rfl)
      have hz2:ss[k].size≤1073741824:=by have:=KU ss k hlt;have:=KV ss (k+1);omega
      obtain⟨bv,w3,hr,hv,hg⟩:=fL wr ss[k] (by omega)
      have j8:(jP (ss.take k)).length+(ss[k].data.toList).length≤zH ss:=by rw[J6];have:=KU ss k hlt;have:=KV ss (k+1);have e9:(ss[k].data.toList).length=ss[k].size:=rfl;omega
      have HL:=zh j8
      have HN:Hid (jP (ss.take (k+1))=jP (ss.take k)++ss[k].data.toList):=iA ss k hlt
      have HV:=zh (And.intro hv hg)
      have hw3:=hg.size
      have hBr:B≤wr.heap.size:=by obtain⟨o',_,_,hm⟩:=HW.out;have:=hm.size;omega
      clear hv hg j8 hc0
      generalize ss[k]=sk at *
      have hdo:Calls prog 94 #[jF p,bv] w3 fun r w''=>r=.returned (.tuple #[])∧jZ B w' w'' p o most (s.1++jP (ss.take (k+1)),0):=by
       obtain⟨o',k1,k2,k3⟩:=HW.out
       have hL:=HL.out
       refine (putT (s.1++jP (ss.take k),0) (k1.grew HV.out.2) (by omega) (by simp;omega) hm1 HV.out.1 (by omega)).mono ?_
       rintro r w'' ⟨rfl,ht⟩
       rw[vL _ _ _ (by rw[List.length_append];omega)] at ht
       obtain⟨o2,t1,t2,t3⟩:=jZ.after HV.out.2 ht
       exact⟨rfl,o2,by rw[HN.out,← List.append_assoc];exact t1,k2.trans t2 k3.size,k3.own k2 t3⟩
      have HD:=zh hdo
      have he38:∀args w,(callFunc 94 args).run prog w=.ok (.enter 94 args) w:=enters_of func94 zk rfl
      clear hdo HW HV
      go_wp2_with fail
      refine HD.out.mono ?_
      rintro r w4 ⟨rfl,ht⟩
      have HT:=zh ht
      clear ht
      go_wp2
      go_roundw
      case rel=>exact⟨k+1,by omega,by go_num,HT⟩
      case measure=>simp[intOf];omega
     ·have e:k=ss.length:=by omega
      have HF:Hid (jZ B w' wr p o most (kA most (jP ss) s)):=by
       have h5:=HW.out
       rw[e,List.take_length] at h5
       have e7:kA most (jP ss) s=(s.1++jP ss,0):=by
        unfold kA ZL QG
        have:=HSZ.out
        rw[if_pos ⟨HE.out,by omega⟩,if_neg (fun h=>h.2 (by omega)),HE.out]
       show jZ _ _ _ _ _ _ _
       rw[e7];exact h5
      clear HW
      go_wp2
      go_end0
      exact⟨rfl,HF.out⟩
  ·have hdec:decide (most - (s.1.length:Int) < (zH ss:Int))=true:=by simp;omega
   have HF:Hid (kA most (jP ss) s=YL 5 s):=by
    show _=_
    unfold kA YL ZL QG kL
    have:=J6 ss
    rw[if_neg (fun h=>by have:=h.2;omega),if_pos ⟨HE.out,fun h=>by omega⟩,if_pos HE.out]
   go_wp2_with fail
   refine k8 jA [[],[0],[],[2],[3],[4],[],[6],[5,7],[1,8]] [[(12,2),(13,3),(14,4),(15,5),(16,6),(17,7),(18,8),(19,9)],[(10,0),(12,2),(13,3),(14,4),(15,5),(16,6),(17,7),(18,8)],[(10,0),(11,1),(14,4),(15,5),(16,6),(17,7),(18,8),(19,9)],[(10,0),(11,1),(12,2),(15,5),(16,6),(17,7),(18,8),(19,9)],[(10,0),(11,1),(12,2),(13,3),(16,6),(17,7),(18,8),(19,9)],[(10,0),(11,1),(12,2),(13,3),(14,4),(16,6),(17,7),(19,9)],[(10,0),(11,1),(12,2),(13,3),(14,4),(15,5),(18,8),(19,9)],[(10,0),(11,1),(12,2),(13,3),(14,4),(15,5),(16,6),(19,9)],[(10,0),(11,1),(12,2),(13,3),(14,4),(15,5),(16,6),(17,7)],[(10,0),(11,1),(12,2),(13,3),(14,4),(15,5),(16,6),(17,7),(18,8)]] [(10,0),(11,1),(12,2),(13,3),(14,4),(15,5),(16,6),(17,7),(18,8),(19,9)]
    [Is (.slice a ss.length c),Is (.int .i64 (zH ss:Int)),Is (jF p),Is (jF p),Is (.pointer (some ⟨p,2,none⟩)),Is (.int .i64 most),Is (jF p),Is (.int .i64 (s.1.length:Int)),Is (.int .i64 (most - (s.1.length:Int))),Is (.bool true)]
    zk jA.trans jA.refl (jA.refl _).drew zk ⟨jS,jS,jS,jS,jS,jS,jS,jS,jS,jS,trivial⟩ ⟨?_,?_,?_,?_,?_,?_,?_,?_,?_,?_,trivial⟩ rfl ?_
   ·exact zst
   ·intro y w2 hG hD K hK
    simp only[zD,zq4,zq5,Is,and_true] at hD
    simp only[jB,Act.put,zq1,zq2,zq3,zq4,zq5,Is] at hK⊢
    simp only[hD] at hK⊢
    clear hD
    refine jL ?_
    go_simp
    refine (n8 w2 _ ss (HS.out.grew hG) hsl hss).mono ?_
    rintro r w3 ⟨rfl,rfl⟩
    exact hK _ _ _ rfl (jA.refl _) rfl
   ·exact zst
   ·exact zst
   ·exact zst
   ·intro y w2 hG hD K hK
    have dc2:=hG.cell c2
    exact zsr
   ·exact zst
   ·intro y w2 hG hD K hK
    simp only[zD,zq4,zq5,Is,and_true] at hD
    simp only[jB,Act.put,zq1,zq2,zq3,zq4,zq5,Is] at hK⊢
    simp only[hD] at hK⊢
    clear hD
    refine jL ?_
    go_simp
    refine (yY (HB.out.grew hG)).mono ?_
    rintro r w3 ⟨rfl,rfl⟩
    exact hK _ _ _ rfl (jA.refl _) rfl
   ·exact zst
   ·exact zst
   ·intro y w2 hG hF
    simp only[yV,Is,and_true,Nat.reduceAdd] at hF
    have h0:=hF.1
    have h1:=hF.2.1
    have h2:=hF.2.2.1
    have h3:=hF.2.2.2.1
    have h4:=hF.2.2.2.2.1
    have h5:=hF.2.2.2.2.2.1
    have h6:=hF.2.2.2.2.2.2.1
    have h7:=hF.2.2.2.2.2.2.2.1
    have h8:=hF.2.2.2.2.2.2.2.2.1
    have h9:=hF.2.2.2.2.2.2.2.2.2
    clear hF
    simp only[jB,Act.put,zq1,zq2,zq3,zq4,zq5,Is]
    rw[h0,h1,h2,h3,h4,h5,h6,h7,h8,h9]
    clear h0 h1 h2 h3 h4 h5 h6 h7 h8 h9
    clear c0 c1 c2 c3 hmm hdec
    have h5:=HB.out.grew hG
    have H5:=zh h5
    have HG:=zh hG
    clear h5 hG
    go_wp2_with fail
    refine (failT s 5 H5.out).mono ?_
    rintro r w5 ⟨rfl,ht⟩
    have HT:=zh (jZ.after HG.out ht)
    clear ht
    go_wp2
    refine bodyPost_ret (results_none rfl _ _ _) rfl ?_
    exact⟨rfl,by rw[HF.out];exact HT.out⟩
 ·have HF:Hid (kA most (jP ss) s=s):=by
   show _=_
   obtain⟨l,e⟩:=s
   unfold kA ZL QG
   rw[if_neg (fun h=>he h.1),if_neg (fun h=>he h.1)]
  have hne:(s.2 != 0)=true:=by simpa using he
  go_wp2
  refine bodyPost_ret (results_none rfl _ _ _) rfl ?_
  exact⟨rfl,by rw[HF.out];exact jZ.refl HB.out⟩
def n9:ByteArray:=⟨#[120]⟩
theorem rV (w:World) (ss:List ByteArray) (t:TypeId):ZR (w.alloc (.cells (ss.map Value.string).toArray t)) (.slice (some ⟨w.heap.size,0,none⟩) ss.length ss.length) ss:=by
 refine⟨_,_,rfl,fun i s hs=>⟨_,_,rfl,?_⟩⟩
 rw[cell_of_row _ _ _ _ _ _ (heap_alloc_new _ _),Nat.zero_add]
 simp[hs]
theorem kU.lt {B:Nat} {w:World} {p:Nat} {o:Option Nat} {l:List UInt8} {most e:Int} (h:kU B w p o l most e):∀k,qH p o k→k < w.heap.size:=by
 obtain⟨_,v,h1,h2,h3,_⟩:=h
 intro k hk
 rcases hk with rfl|hk
 ·exact (Array.getElem?_eq_some_iff.1 h1).1
 ·exact (World.ownsRow.lt h2 k (by rw[h3,← hk])).2
theorem hs3 {a:ByteArray} (h:a.size≤40):zH [a,n9,a]≤1073741824:=by
 have e:n9.size=1:=rfl
 simp[zH,e];omega
theorem oA {B:Nat} {w:World} {p:Nat} {o:Option Nat} {most:Int} (s:St) (ss:List ByteArray) (h:kU B w p o s.1 most s.2) (hB:B≤w.heap.size) (hl:(s.1.length:Int)≤most) (hm1:most≤1048576)
 (hsl:ss.length≤1048576) (hss:zH ss≤1073741824) :
 Calls prog 52 #[jF p,.slice (some ⟨w.heap.size,0,none⟩) ss.length ss.length] (w.alloc (.cells (ss.map Value.string).toArray 9)) fun r w'=>r=.returned (.tuple #[])∧jZ B w w' p o most (kA most (jP ss) s):=by
 have hg:=(jA.refl w).alloc (.cells (ss.map Value.string).toArray 9)
 refine (iC s _ ss (h.grew hg) (Nat.le_trans hB hg.size) hl hm1 (rV w ss _) hsl hss ?_).mono fun r w' ⟨hr,ht⟩=>⟨hr,ht.after hg⟩
 intro ad n c he hk
 injection he with e1 _ _
 injection e1 with e1
 subst e1
 exact absurd (h.lt _ hk) (Nat.lt_irrefl _)
theorem QP {B:Nat} {w:World} {p:Nat} {o:Option Nat} {most:Int} (s:St) (x:ByteArray) (k:Nat) (hk:k=w.heap.size) (h:kU B w p o s.1 most s.2) (hB:B≤w.heap.size) (hl:(s.1.length:Int)≤most) (hm1:most≤1048576)
 (hss:zH [x]≤1073741824) :
 Calls prog 52 #[jF p,.slice (some ⟨k,0,none⟩) 1 1] (w.alloc (.cells #[.string x] 9)) fun r w'=>r=.returned (.tuple #[])∧jZ B w w' p o most (kA most (jP [x]) s):=by
 subst hk
 exact oA s [x] h hB hl hm1 (by simp) hss
theorem rW {B:Nat} {w:World} {p:Nat} {o:Option Nat} {most:Int} (s:St) (x y:ByteArray) (k:Nat) (hk:k=w.heap.size) (h:kU B w p o s.1 most s.2) (hB:B≤w.heap.size) (hl:(s.1.length:Int)≤most) (hm1:most≤1048576)
 (hss:zH [x,y]≤1073741824) :
 Calls prog 52 #[jF p,.slice (some ⟨k,0,none⟩) 2 2] (w.alloc (.cells #[.string x,.string y] 9)) fun r w'=>r=.returned (.tuple #[])∧jZ B w w' p o most (kA most (jP [x,y]) s):=by
 subst hk
 exact oA s [x,y] h hB hl hm1 (by simp) hss
section
variable {w0 w:World} {p:Nat} {most:Int} {s:St}
def QQ (s:St):List UInt8:=if s.2=0 then s.1 else []
end
end Go.Proofs.YtjnpcddbgfmpcaaGreatDoor
