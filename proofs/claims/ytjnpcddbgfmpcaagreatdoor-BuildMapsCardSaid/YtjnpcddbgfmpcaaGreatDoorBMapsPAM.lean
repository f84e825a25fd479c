/-
  Texts of the proof.
-/
import Derived.Test.YtjnpcddbgfmpcaaGreatDoorBMapsPAG
import Derived.Test.YtjnpcddbgfmpcaaGreatDoorBMapsPAE
set_option linter.unusedVariables false
set_option linter.unusedSimpArgs false
set_option maxHeartbeats 4000000
set_option maxRecDepth 100000
namespace Go.Proofs.YtjnpcddbgfmpcaaGreatDoor
open Go.Proofs.Tryz
open Go Go.ChangeShapes Go.WideShapes Go.ChangeAt Go.RowKit Go.Joins Go.Deep
theorem jI {w:World} {p:Nat} {cs:Array Value} {t:TypeId} (h:w.heap[p]? = some (.cells cs t (0,0))) (k:Nat) (v:Value) (hv:cs[k]? = some v):w.cell? ⟨p,k,none⟩=some v:=by
 rw[cell_of_row w p k _ _ _ h];exact hv
theorem Tryz.infoStr:(Tryz.prog.info? 9).map (fun i=>(i.zero,i.size,i.bytes))=some (some (.string ⟨#[]⟩),1,16):=by kernel_rfl
theorem VC:∃i0,Tryz.prog.info? 9=some i0∧i0.zero=some (.string ⟨#[]⟩)∧i0.size=1∧i0.bytes=16:=by
 have h:=Tryz.infoStr
 cases hq:Tryz.prog.info? 9 with
 | none=>simp[hq] at h
 | some i=>simp[hq] at h;exact⟨i,rfl,h.1,h.2.1,h.2.2⟩
theorem j7 {w:World} {B:Nat} {e:TypeId} {size:Nat} {v:Value} {n:Nat} {xs:List Value} (h:w.ownsRow B e size v n xs):∃a c,v=.slice a n c∧n≤c∧k9 c∧(a=none→c=0):=by
 rcases h.2 with ⟨rfl,hn⟩|⟨g,cap,cur,rfl,_,_,hn,hm,_⟩
 ·exact⟨none,0,by rw[hn],by omega,by unfold k9;omega,fun _=>rfl⟩
 ·exact⟨_,cap,rfl,hn,by unfold maxLen at hm;exact hm,(fun h=>by cases h)⟩
theorem JF {w:World} {B B':Nat} {e:TypeId} {size:Nat} {v:Value} {n:Nat} {xs:List Value} (h:w.ownsRow B e size v n xs) (hb:B'≤B):w.ownsRow B' e size v n xs:=by
 obtain⟨h1,h2⟩:=h
 refine⟨h1,?_⟩
 rcases h2 with h2|⟨g,cap,cur,hv,hg,r⟩
 ·exact .inl h2
 ·exact .inr ⟨g,cap,cur,hv,by omega,r⟩
theorem zC {w w':World} {B:Nat} {e:TypeId} {size:Nat} {v:Value} {n:Nat} {xs:List Value} (h:w.ownsRow B e size v n xs) (hg:jA w w'):w'.ownsRow B e size v n xs:=Moved.owns (Moved.of_grew (S:=fun _=>False) hg) h (fun _ _ h=>h)
def yN (w:World) (B:Nat) (v:Value) (ss:List ByteArray):Prop:=w.ownsRow B 9 1 v ss.length (ss.map Value.string)
theorem yN.nil (w:World) (B:Nat):yN w B (.slice none 0 0) []:=World.ownsRow_nil _ _ _ _
theorem yN.grew {w w':World} {B:Nat} {v:Value} {ss:List ByteArray} (h:yN w B v ss) (hg:jA w w'):yN w' B v ss:=zC h hg
theorem add0 (g j:Nat):(⟨g,0,none⟩:Addr).add j=⟨g,0+j,none⟩:=QI _ g 0 j rfl
theorem yN.strs {w:World} {B:Nat} {v:Value} {ss:List ByteArray} (h:yN w B v ss) (hz:∀s∈ss,k9 s.size):kO w v ss:=by
 obtain⟨a,c,rfl,h1,h2,h3⟩:=j7 h
 refine⟨a,c,rfl,h1,h2,h3,fun i s hs=>⟨hz s (List.mem_of_getElem? hs),?_⟩⟩
 rcases h.2 with ⟨e,hn⟩|⟨g,cap,cur,e,_⟩
 ·have:ss=[]:=List.length_eq_zero_iff.1 hn
  subst this;simp at hs
 ·cases e
  have:=World.ownsRow.cells h (g:=g) rfl i (.string s) (by simp[hs])
  rw[add0] at this
  exact⟨g,0,rfl,this⟩
theorem JO {ops:Array Oper} {rest:List Oper} {o:Oper} {a:Act} {w:World} {Q:Exit→Act→World→Prop} (hgd:o.guard=none) (s x:Operand)
 (ho:o.op=.call {callee:=.builtin .append,args:=#[s,x],argTypes:=#[22,22]}) (B:Nat) (v:Value) (ss:List ByteArray) (hs:a.eval s=v) (j3:yN w B v ss)
 (sv:Value) (l2:List ByteArray) (hx:a.eval x=sv) (hsv:kO w sv l2) (j8:ss.length+l2.length≤1099511627776) (hB:B≤w.heap.size)
 (h:∀v' w',yN w' B v' (ss++l2)→w.grownBy w' v.ownBlock→zO w v.ownBlock v'.ownBlock→wpList prog ops Q rest (a.put o.dst v') w'):wpList prog ops Q (o::rest) a w:=by
 obtain⟨i0,hi,hz0,hz1,hz2⟩:=VC
 obtain⟨sa,cap,rfl,_,_,kQ,hc⟩:=hsv
 cases sa with
 | none=>
  have h0:l2=[]:=by
   cases l2 with
   | nil=>rfl
   | cons y r=>obtain⟨_,b,off,e,_⟩:=hc 0 y rfl;cases e
  subst h0
  have:=kQ rfl
  subst this
  refine wpList_append_own_none hgd s x 22 ho B 9 i0 1 underlying22 hi v ss.length _ hs j3 hx ?_
  exact h v w (by rw[List.append_nil];exact j3) ⟨rfl,rfl,rfl,Nat.le_refl _,fun _ _ _=>rfl⟩ (zO.refl _ _)
 | some ad=>
  have hnews:∀j u,(l2.map Value.string)[j]? = some u→w.cell? (ad.add j)=some u:=by
   intro j u hj
   rw[List.getElem?_map] at hj
   cases hq:l2[j]? with
   | none=>rw[hq] at hj;cases hj
   | some s=>
    rw[hq] at hj
    obtain⟨_,b,off,e,j2⟩:=hc j s hq
    cases e
    simp at hj
    subst hj
    rw[QI _ b off j rfl]
    exact j2
  obtain⟨v',w',hr,h2,h3,h4⟩:=y6 (P:=prog) w B 22 o.type 9 i0 (.string ⟨#[]⟩) 1 16 underlying22 hi hz0 hz1 hz2 rfl (by decide) v ss.length _ j3 ad l2.length cap (l2.map Value.string) (by simp) hnews (by intro u hu;obtain⟨s,_,rfl⟩:=List.mem_map.1 hu;rfl) (by unfold maxLen;omega) (by omega) hB
  refine wpList_plain hgd fun _ hK=>Lib.wp_append_run w s x 22 22 ho v _ hs hx v' w' hr (hK _ _ (h v' w' ?_ h3 h4))
  unfold yN
  rw[List.length_append,List.map_append]
  exact h2
theorem rR {w wr w':World} {e:TypeId} {size:Nat} {v:Value} {n:Nat} {xs:List Value} (h:wr.ownsRow w.heap.size e size v n xs) (hg:jA w wr) (hgr:wr.grownBy w' v.ownBlock):jA w w':=by
 have hgr2:Moved (fun k=>some k=v.ownBlock) wr w':=Moved.of_grown hgr
 refine⟨hgr2.os.trans hg.os,hgr2.tape.trans hg.tape,hgr2.output.trans hg.output,Nat.le_trans hg.size hgr2.size,fun k hk=>?_⟩
 refine (hgr2.block k (Nat.lt_of_lt_of_le hk hg.size) fun e=>?_).trans (hg.block k hk)
 rcases h.2 with ⟨rfl,hn⟩|⟨g,cap,cur,rfl,hb,_,_⟩
 ·cases e
 ·have:k=g:=by injection e
  omega
theorem aY (w:World) (s:ByteArray) (hs:k9 s.size):kO (w.alloc (.cells #[.string s] 9)) (.slice (some ⟨w.heap.size,0,none⟩) 1 1) [s]:=by
 have h:=heap_alloc_new w (.cells #[.string s] 9)
 refine⟨_,1,rfl,by simp,by unfold k9;omega,(fun h=>by cases h),fun i y hy=>?_⟩
 have hi:i=0:=by have:=(List.getElem?_eq_some_iff.1 hy).1;simp at this;omega
 subst hi
 simp at hy
 subst hy
 exact⟨hs,_,_,rfl,jI h 0 _ rfl⟩
/-! ### strings -/
def yP (s:ByteArray) (m:Nat):ByteArray:=s.extract 0 (min s.size m)
theorem vP (s:ByteArray) (m:Nat):(yP s m).size=min s.size m:=by simp[yP]
theorem min_nat (a b:Nat):min (a:Int) (b:Int)=((min a b:Nat):Int):=by omega
theorem YX (w:World) (s:ByteArray) (m:Nat) (hs:k9 s.size) (hm:m≤1000) :
 Calls prog 7 #[.string s,.int .i64 m] w fun r w'=>r=.returned (.string (yP s m))∧w=w':=by
 unfold k9 at hs
 have h1:min (s.size:Int) (m:Int)=((min s.size m:Nat):Int):=min_nat _ _
 obtain⟨k,hk⟩:∃k:Nat,min s.size m=k:=⟨_,rfl⟩
 rw[hk] at h1
 have hks:k≤s.size:=by omega
 have hki:(k:Int)≤s.size:=by omega
 have HK:=zh hk
 clear hk
 go_enter func7,ntmps7
 go_wp2
 ·go_ret
  exact⟨by rw[yP,HK.out,show m=k by have:=HK.out;omega];rfl,rfl⟩
 ·go_ret
  exact⟨by rw[yP,HK.out,show k=s.size by have:=HK.out;omega];simp,rfl⟩
section
variable {w w':World} {B:Nat} {v:Value} {vs:List Value} {t:Tr} {l:List Tr} {S T:Nat→Prop}
end
def zQ (l:List ByteArray) (many JZ:Nat):List ByteArray:=(l.take many).map (yP · JZ)
theorem gT {l:List ByteArray} {k:Nat} {s:ByteArray} (h:l[k]? = some s) {many:Nat} (hk:k < many) (JZ:Nat):zQ (l.take k) many JZ++[yP s JZ]=zQ (l.take (k+1)) many JZ:=by
 obtain⟨hl,hs⟩:=List.getElem?_eq_some_iff.1 h
 unfold zQ
 rw[List.take_take,List.take_take,Nat.min_eq_right (by omega:k≤many),Nat.min_eq_right (by omega:k+1≤many),List.take_succ_eq_append_getElem hl,List.map_append,hs]
 rfl
theorem l7 (l:List ByteArray) (many JZ:Nat):zQ (l.take many) many JZ=zQ l many JZ:=by simp[zQ,List.take_take]
theorem YM (l:List ByteArray) (many JZ:Nat):(zQ l many JZ).length=min many l.length:=by simp[zQ]
theorem oR (many JZ:Nat) (v:Value) (l:List ByteArray) (w:World) (h:kO w v l) (hm:many≤1000) (hlg:JZ≤1000) :
 Calls prog 143 #[v,.int .i64 many,.int .i64 JZ] w fun r w'=>∃v',r=.returned v'∧yN w' w.heap.size v' (zQ l many JZ)∧jA w w':=by
 obtain⟨ad,c,rfl,hlc,hcm,_,j2⟩:=h
 have HC:=zh j2
 have hl:l.length≤9223372036854775807:=by unfold k9 at hcm;omega
 clear j2 hcm
 go_enter func143,ntmps143
 go_wp2_with fail
 go_loopw [7,8] (fun v i wr=>∃k:Nat,k≤l.length∧k≤many∧i=.int .i64 k∧Hid (yN wr w.heap.size v (zQ (l.take k) many JZ)∧jA w wr)) (fun _ i _=>l.length - (intOf i).toNat)
 case atStart=>exact⟨0,Nat.zero_le _,by omega,rfl,by
  show _∧_
  exact⟨by simpa [zQ] using yN.nil _ _,jA.refl _⟩⟩
 case round=>
  obtain⟨k,hk,hk2,rfl,HW⟩:=hrel
  by_cases hlt:k < l.length
  ·by_cases h3:k < many
   ·obtain⟨x,hx⟩:∃x,l[k]? = some x:=⟨_,List.getElem?_eq_getElem hlt⟩
    have HSN:=zh (gT hx h3 JZ)
    obtain⟨hz,b,off,rfl,c0⟩:=HC.out k x hx
    have HZ:=zh hz
    clear hx hz
    have d0:=HW.out.2.cell c0
    clear c0
    have h3i:(k:Int) < many:=by omega
    go_wp2_with fail
    refine (YX wr x JZ HZ.out hlg).mono ?_
    rintro r w2 ⟨rfl,rfl⟩
    have HO:=zh HW.out.1
    have HG:=zh HW.out.2
    obtain⟨va,vc,rfl,_,_,_⟩:=j7 HO.out
    have HLN:Hid ((zQ (l.take k) many JZ).length≤1000):=by show _≤_;rw[YM];omega
    have hzs:Hid (k9 (yP x JZ).size):=by show k9 _;have:=HZ.out;unfold k9 at *;rw[vP];omega
    generalize zQ (l.take k) many JZ=L at *
    generalize yP x JZ=X at *
    clear HW
    have HO2:Hid (∀o,yN (wr.alloc o) w.heap.size (.slice va L.length vc) L):=fun o=>HO.out.grew ((jA.refl _).alloc o)
    go_wp2_with (at_builtin;refine JO rfl _ _ rfl w.heap.size (.slice va L.length vc) L rfl (HO2.out _) _ [X] rfl (aY _ _ hzs.out) (by have:=HLN.out;simp;omega) (Nat.le_trans HG.out.size (by simp)) ?_;intro v' w3 j3 hgr hqq;obtain⟨va2,vc2,rfl,_,_,_⟩:=j7 j3;have HG3:=zh (And.intro j3 (rR (HO2.out _) (HG.out.alloc _) hgr));clear j3 hgr hqq)
    go_roundw
    case rel=>
     refine⟨k+1,by omega,by omega,by go_num,?_⟩
     show _∧_
     rw[← HSN.out]
     have hh:=HG3.out
     rw[List.length_append] at hh
     exact hh
    case measure=>simp[intOf];omega
   ·have ek:k=many:=by omega
    subst ek
    have hw:=HW.out
    have HE:Hid (yN wr w.heap.size u7 (zQ l k JZ)∧jA w wr):=by
     show _∧_
     rw[l7] at hw
     exact hw
    clear hw HW
    go_wp2
    go_ret
    exact⟨_,rfl,HE.out⟩
  ·have ek:k=l.length:=by omega
   subst ek
   have hw:=HW.out
   have HE:Hid (yN wr w.heap.size u7 (zQ l many JZ)∧jA w wr):=by
    show _∧_
    rw[List.take_length] at hw
    exact hw
   clear hw HW
   go_wp2
   all_goals
    go_ret
    exact⟨_,rfl,HE.out⟩
theorem Moved.fresh {S:Nat→Prop} {w0 w w':World} (hg:jA w0 w) (h:Moved S w w') (hS:∀g,S g→w0.heap.size≤g):jA w0 w':=
 Below.trans hg (h.below hg.size hS)
theorem YY (x y:ByteArray):(x.toList == y.toList)=decide (x=y):=by
 rw[Bool.eq_iff_iff,beq_iff_eq,decide_eq_true_eq,ByteArray.toList_eq,ByteArray.toList_eq]
 exact⟨fun h=>bytes_inj h,fun h=>by rw[h]⟩
end Go.Proofs.YtjnpcddbgfmpcaaGreatDoor
