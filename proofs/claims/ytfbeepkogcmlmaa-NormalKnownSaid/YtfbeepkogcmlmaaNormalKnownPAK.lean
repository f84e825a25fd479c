/-
  Texts of the proof.
-/
import Derived.Test.YtfbeepkogcmlmaaNormalKnownPAH
import Derived.RangeFuncNested
import Derived.RangeFuncBound
import Derived.RangeFuncCalls
import Derived.RangeFuncLeaves
import Derived.Shelf.Abstract
import Derived.Shelf.RegionOpen
import Derived.OwnWalkIn
import Derived.TacticsInMore
import Derived.LoopNIn
import Derived.LoopIn
set_option linter.unusedVariables false
set_option linter.unusedSimpArgs false
set_option maxHeartbeats 8000000
set_option maxRecDepth 100000
namespace Go.Proofs.Ytfbeepkogcmlmaa
open Go Go.ChangeShapes Go.WideShapes Go.ChangeAt Go.RowKit Go.Joins Go.Deep Go.Shelf
attribute [local go_sem] Oper.semAt_some
def yY (w w':World):Prop:=∀(k:Nat) (o:Obj),w.heap[k]? = some o→o.isCells=true→w'.heap[k]? = some o
theorem yY.cell {w w':World} (h:yY w w') {a:Addr} {v:Value} (hc:w.cell? a=some v):w'.cell? a=some v:=by
 have:∃o,w.heap[a.block]? = some o∧o.isCells=true:=by
  unfold World.cell? at hc
  cases ho:w.heap[a.block]? with
  | none=>simp[ho] at hc
  | some o=>exact⟨o,rfl,by cases o<;>simp_all [Obj.isCells]⟩
 obtain⟨o,ho,hi⟩:=this
 rw[World.cell?_of_block (w:=w) ((h _ o ho hi).trans ho.symm)]
 exact hc
theorem yY.of_grew {w w':World} (h:jC w w'):yY w w':=fun k o ho _=>(h.block k (Array.getElem?_eq_some_iff.1 ho).1).trans ho
section
variable {w w':World} {v:Value} {vs:List Value}
theorem kQ.cells {b off:Nat} (h:kQ w b off v) (hg:yY w w'):kQ w' b off v:=by
 obtain⟨c0,c1,c2,c3,c4,c5,e,h0,h1,h2,h3,h4,h5⟩:=h
 exact⟨c0,c1,c2,c3,c4,c5,e,hg.cell h0,hg.cell h1,hg.cell h2,hg.cell h3,hg.cell h4,hg.cell h5⟩
end
structure KpC (lo hi:Nat) (w w':World):Prop where
 size:w.heap.size≤w'.heap.size
 same:∀(k:Nat) (o:Obj),w.heap[k]? = some o→o.isCells=true→k < lo∨hi≤k→w'.heap[k]? = some o
theorem KpC.trans {lo hi:Nat} {a b c:World} (h:KpC lo hi a b) (k:KpC lo hi b c):KpC lo hi a c:=⟨Nat.le_trans h.size k.size,fun i o ho hc hr=>k.same i o (h.same i o ho hc hr) hc hr⟩
theorem KpC.of_grew {lo hi:Nat} {a b:World} (h:jC a b):KpC lo hi a b:=⟨h.size,fun k o ho hc _=>yY.of_grew h k o ho hc⟩
theorem KpC.turn {lo hi:Nat} (W:World) (l:Nat) (o o':Obj) (h:W.heap[l]? = some o) (ho:o.isCells=false):KpC lo hi W (W.putObj l o'):=
 ⟨by simp,fun k q hk hc _=>by
  by_cases e:k=l
  ·subst e;rw[h] at hk;cases hk;rw[ho] at hc;cases hc
  ·exact (World.putObj_heap_other e).trans hk⟩
theorem yY.keep {lo hi:Nat} {w0 a b:World} (h:yY w0 a) (hlo:w0.heap.size≤lo) (k:KpC lo hi a b):yY w0 b:=fun i o ho hc=>k.same i o (h i o ho hc) hc (.inl (Nat.lt_of_lt_of_le (Array.getElem?_eq_some_iff.1 ho).1 hlo))
theorem AbidesFrom.grew {β:Type} {B:Nat} {J:β→World→Prop} (h:AbidesFrom B J) {s:β} {A C:World} (hs:J s A) (hg:jC A C):J s C:=
 h s A C none hs ⟨hg.os,hg.tape,hg.output,hg.size,fun k hk _=>hg.block k hk⟩ (fun r e=>by cases e)
mutual
def qP (b:Nat):Tr→List (Nat × Tr) | .mk k n u s keys l=>(b,.mk k n u s keys l)::y6 (b+1) l
def y6 (b:Nat):List Tr→List (Nat × Tr) | []=>[] | t::r=>qP b t++y6 b r
end
theorem aE (b:Nat) (l:List Tr) (x:Tr):y6 b (l++[x])=y6 b l++qP b x:=by
 induction l with
 | nil=>simp[y6]
 | cons t r ih=>simp[y6,ih]
theorem QD (b:Nat) (l r:List Tr):y6 b (l++r)=y6 b l++y6 b r:=by
 induction l with
 | nil=>simp[y6]
 | cons t q ih=>simp[y6,ih]
mutual
theorem vD (b:Nat):∀t:Tr,(qP b t).length=t.size
 | .mk k n u s keys l=>by simp only[qP,Tr.size,List.length_cons,vE (b+1) l]
theorem vE (b:Nat):∀l:List Tr,(y6 b l).length=kI l
 | []=>rfl
 | t::r=>by simp only[y6,kI,List.length_append,vD b t,vE b r]
end
theorem qA (l r:List Tr):kI (l++r)=kI l+kI r:=by
 induction l with
 | nil=>simp[kI]
 | cons t q ih=>simp only[List.cons_append,kI,ih];omega
def kY (P:Tr→Prop) (w0:World):Type:={p:Nat × Value × Tr // jL w0 p.2.2 p.2.1∧p.1≤1099511627776∧P p.2.2}
def kY.key {P:Tr→Prop} {w0:World} (x:kY P w0):Nat × Tr:=(x.1.1,x.1.2.2)
def kY.encs {P:Tr→Prop} {w0:World} (x:kY P w0):Array Value:=#[.int .i64 x.1.1,x.1.2.1]
theorem YieldAt.anyM {m m':Nat} {P:Program} {l:Nat} {args:Array Value} {W:World} {R:Ending→World→Prop} (h:YieldAt Fence.wide m P l args W R):YieldAt Fence.wide m' P l args W R:=by
 obtain⟨fn,tmps,assign,body,hy,hR⟩:=h
 exact⟨fn,tmps,assign,body,hy,hR.1,fun c cs _=>hR.2 c cs (room_wide _)⟩
theorem Q7 (P:Tr→Prop) (hP:∀t,P t→∀x∈t.kids,P x) (w0:World) (lp lo hi N:Nat) (J Jx:List (kY P w0)→World→Prop) (hlo:w0.heap.size≤lo)
 (hJ:∀s A B,J s A→jC A B→J s B)
 (hY:∀m pre (x:kY P w0) W,J pre W→pre.length < N→YieldAt Fence.wide m Try.prog lp x.encs W fun e W'=>
  (e=.returned (.bool true)∧J (pre++[x]) W'∧KpC lo hi W W')∨(e=.returned (.bool false)∧Jx (pre++[x]) W')) :
 ∀(m:Nat) (t:Tr),t.size≤m→P t→∀(n:Nat) (v:Value) (b:Nat) (pre:List (kY P w0)) (W:World),jL w0 t v→yY w0 W→hi≤W.heap.size→J pre W→pre.length+t.size≤N→b+t.size≤1099511627776 →
  CallsIn Fence.wide n Try.prog 54 #[v,.int .i64 b,.func (.yield lp) #[] #[]] W fun e W'=>
   (e=.returned (.bool true)∧(∃ys:List (kY P w0),ys.map kY.key=qP b t∧J (pre++ys) W')∧KpC lo hi W W') ∨
   (e=.returned (.bool false)∧∃ys:List (kY P w0),ys.map kY.key <+: qP b t∧Jx (pre++ys) W'):=by
 intro m
 induction m with
 | zero=>intro t ht;have:=t.size_pos;omega
 | succ m ih=>
 intro t ht hPt nn v b pre W hn hC hhi h0 hN hb
 obtain⟨x,hx1,hx2⟩:∃x:kY P w0,x.1=(b,v,t)∧x.encs=#[.int .i64 b,v]:=⟨⟨(b,v,t),hn,by have:=t.size_pos;show b≤_;omega,hPt⟩,rfl,rfl⟩
 have HPK:=zh (hP t hPt)
 clear hP
 have HX:Hid (x.key=(b,t)):=by show _=_;simp[kY.key,hx1]
 clear hx1
 obtain⟨k,n,u,s,keys,l⟩:=t
 simp only[jL] at hn
 obtain⟨_,kv,lv,vs,rfl,hks,kS,kP⟩:=hn
 have hkl:vs.length=l.length:=kP.length
 obtain⟨a4,c4,rfl,_,_,_,_⟩:=hks
 have HK:=zh kP
 have j8:=zh kS
 obtain⟨a5,c5,rfl,hx3,hc5,hx4,hx5⟩:=kS
 rw[hkl] at j8 hx3 hx2⊢
 obtain⟨fn,tmps,assign,body,hy,hR⟩:=hY (nn - 1) pre x (W.alloc (.cells #[.int .i64 k,.int .i64 n,.int .u64 u,.string s,.slice a4 keys.length c4,.slice a5 l.length c5] 26)) (hJ _ _ _ h0 ((jC.refl W).alloc _)) (by simp only[Tr.size] at hN;omega)
 rw[hx2] at hy
 have kV:l.length≤9223372036854775807:=by unfold jI at hc5;omega
 have HC:=zh hC
 have HHI:=zh hhi
 have HT:=zh ht
 have HN:=zh hN
 have HB:=zh hb
 have H0:=zh h0
 have HIH:=zh ih
 have HHJ:=zh hJ
 have HY:=zh hY
 have HLO:=zh hlo
 clear hx3 hx4 hx5 hc5 kP hC hhi ht hN hb h0 ih hJ hY hlo hkl
 refine callsIn_of_wp Try.func54 rfl trivial ?_ rfl
 simp only[Try.ntmps54,List.size_toArray,List.length_cons,List.length_nil,Nat.reduceAdd,Nat.reduceSub,Array.replicate_succ,Array.replicate_zero,List.push_toArray,List.append_toArray,List.nil_append,List.cons_append]
 have hbx0:=heap_alloc_new W (.cells #[.int .i64 k,.int .i64 n,.int .u64 u,.string s,.slice a4 keys.length c4,.slice a5 l.length c5] 26)
 have hs0:(W.alloc (.cells #[.int .i64 k,.int .i64 n,.int .u64 u,.string s,.slice a4 keys.length c4,.slice a5 l.length c5] 26)).heap.size=W.heap.size+1:=World.size_alloc _ _
 have HG0:=zh ((jC.refl W).alloc (.cells #[.int .i64 k,.int .i64 n,.int .u64 u,.string s,.slice a4 keys.length c4,.slice a5 l.length c5] 26))
 have hR2:=hR.mono (R':=fun e W2=>(e=.returned (.bool true)∧Hid (J (pre++[x]) W2∧KpC lo hi W W2)∧W2.cell? ⟨W.heap.size,5,none⟩=some (.slice a5 l.length c5))∨(e=.returned (.bool false)∧Hid (Jx (pre++[x]) W2))) (fun e W2 h=>h.elim (fun h=>.inl ⟨h.1,⟨h.2.1,(KpC.of_grew HG0.out).trans h.2.2⟩,jA (h.2.2.same _ _ hbx0 rfl (.inr HHI.out)) 5 _ rfl⟩) (fun h=>.inr h))
 clear hbx0 hs0 hR
 have hdd:∀q:Nat,(Fence.wide.depth.isSome=true→1≤q):=fun q h=>by cases h
 gi_wp2_with (refine⟨hdd _,?_⟩;refine hR2.mono ?_;clear hR2;rintro e W2 (⟨rfl,HW2,d5⟩ | ⟨rfl,hx2⟩))
 ·-- the node has been visited
  have HCW:=zh (HC.out.keep HLO.out HW2.out.2)
  have HH2:Hid (hi≤W2.heap.size):=Nat.le_trans HHI.out HW2.out.2.size
  clear d5 hy hx2
  gi_loopw [17] (fun i wr=>∃j:Nat,j≤l.length∧i=.int .i64 j∧Hid (KpC lo hi W wr∧∃ys:List (kY P w0),ys.map kY.key=y6 (b+1) (l.take j)∧J (pre++x::ys) wr)) (fun i _=>l.length - (intOf i).toNat)
  case atStart=>
   refine⟨0,Nat.zero_le _,rfl,?_⟩
   show _∧_
   exact⟨HW2.out.2,[],by simp[y6],HW2.out.1⟩
  case round=>
   obtain⟨j,hj,rfl,HW⟩:=hrel
   by_cases hlt:j < l.length
   ·obtain⟨y,hy⟩:∃y,l[j]? = some y:=⟨_,List.getElem?_eq_getElem hlt⟩
    obtain⟨yv,hyv,hny⟩:=HK.out.get hy
    have hym:y∈l:=List.mem_of_getElem? hy
    have htk:l.take (j+1)=l.take j++[y]:=by rw[List.take_add_one,hy];rfl
    have HTK:Hid (y6 (b+1) (l.take (j+1))=y6 (b+1) (l.take j)++qP (b+1) y):=by show _=_;rw[htk,aE]
    have hszy:kI (l.take j)+y.size≤kI l:=by
     have h1:kI (l.take (j+1))+kI (l.drop (j+1))=kI l:=by rw[← qA,List.take_append_drop]
     rw[htk,qA] at h1
     simp only[kI] at h1
     omega
    have hCwr:yY w0 wr:=HC.out.keep HLO.out HW.out.1
    obtain⟨bb,off,rfl,hc6⟩:∃bb off,a5=some ⟨bb,off,none⟩∧kQ wr bb (off+j*6) yv:=by
     obtain⟨a,c,e,_,_,_,h⟩:=j8.out
     injection e with e1 e2 e3
     subst e1
     obtain⟨bb,off,e,h6⟩:=h j yv hyv
     exact⟨bb,off,e,h6.cells hCwr⟩
    obtain⟨xk,xn,xu,xs,xa4,xn4,xc4,xa5,xn5,xc5,rfl⟩:=hny.node6
    obtain⟨e0,e1,e2,e3,e4,e5⟩:=hc6.get
    have zX:Hid (∀q:Nat,CallsIn Fence.wide q Try.prog 54 #[.agg #[.int .i64 xk,.int .i64 xn,.int .u64 xu,.string xs,.slice xa4 xn4 xc4,.slice xa5 xn5 xc5],.int .i64 ((b:Int)+1),.func (.yield lp) #[] #[]] (wr.alloc (.cells #[.int .i64 xk,.int .i64 xn,.int .u64 xu,.string xs,.slice xa4 xn4 xc4,.slice xa5 xn5 xc5] 26)) fun e W'=>
     (e=.returned (.bool true)∧Hid (KpC lo hi W W'∧∃ys:List (kY P w0),ys.map kY.key=y6 (b+1) (l.take (j+1))∧J (pre++x::ys) W')) ∨
     (e=.returned (.bool false)∧Hid (∃ys:List (kY P w0),ys.map kY.key <+: qP b (.mk k n u s keys l)∧Jx (pre++ys) W'))):=by
     intro q
     obtain⟨hkp,ys,hys,hjs⟩:=HW.out
     have hN':=HN.out
     have hB':=HB.out
     have hT':=HT.out
     simp only[Tr.size] at hN' hB' hT'
     have hyl:ys.length=kI (l.take j):=by rw[← vE (b+1),← hys,List.length_map]
     have hga:=(jC.refl wr).alloc (.cells #[.int .i64 xk,.int .i64 xn,.int .u64 xu,.string xs,.slice xa4 xn4 xc4,.slice xa5 xn5 xc5] 26)
     have hpos:=y.size_pos
     have hsj:=k9 hym
     refine (HIH.out y (by omega) (HPK.out y hym) q _ (b+1) (pre++x::ys) _ hny (hCwr.keep HLO.out (KpC.of_grew hga:KpC lo hi _ _)) (Nat.le_trans HHI.out (Nat.le_trans hkp.size hga.size)) (HHJ.out _ _ _ hjs hga) (by simp only[List.length_append,List.length_cons];omega) (by omega)).mono ?_
     rintro e W' (⟨rfl,⟨zs,hzs,hjz⟩,hk'⟩|⟨rfl,zs,hzs,hjz⟩)
     ·refine .inl ⟨rfl,(hkp.trans (KpC.of_grew hga)).trans hk',ys++zs,?_,?_⟩
      ·rw[List.map_append,hys,hzs,HTK.out]
      ·simpa [List.append_assoc] using hjz
     ·refine .inr ⟨rfl,x::(ys++zs),?_,?_⟩
      ·rw[List.map_cons,HX.out,List.map_append,hys]
       simp only[qP]
       refine List.prefix_cons_inj _ |>.2 ?_
       have h1:y6 (b+1) l=y6 (b+1) (l.take j)++(qP (b+1) y++y6 (b+1) (l.drop (j+1))):=by
        rw[← List.append_assoc,← HTK.out,← QD,List.take_append_drop]
       rw[h1]
       exact (List.prefix_append_right_inj _).2 (hzs.trans (List.prefix_append _ _))
      ·simpa [List.append_assoc] using hjz
    have yD:(j:Int) < l.length:=by omega
    have hwb:Hid (wrap64 ((b:Int)+1)=(b:Int)+1):=by
     have hB':=HB.out
     simp only[Tr.size] at hB'
     exact IntWalk.wrap64_in _ (by omega)
    clear hc6 hy hyv hny hym htk hszy hCwr
    gi_wp2_with (refine⟨trivial,hdd _,?_⟩;rw[hwb.out];refine (zX.out _).mono ?_;clear zX;rintro e W3 (⟨rfl,HW3⟩ | ⟨rfl,HX3⟩))
    ·go_roundw
     case rel=>exact⟨j+1,by omega,by go_num,HW3⟩
     case measure=>simp[intOf];omega
    ·gi_wp2
     go_ret
     exact .inr ⟨rfl,HX3.out⟩
   ·have ej:j=l.length:=by omega
    subst ej
    gi_wp2
    go_ret
    obtain⟨hkp,ys,hys,hjs⟩:=HW.out
    rw[List.take_length] at hys
    exact .inl ⟨rfl,⟨x::ys,by rw[List.map_cons,HX.out,hys];simp only[qP],hjs⟩,hkp⟩
 ·gi_wp2
  go_ret
  exact .inr ⟨rfl,[x],by simp[HX.out,qP],hx2⟩
theorem Q8 (v:Value) (w:World) (hv:qX v):Calls Try.prog 35 #[v] w fun r w'=>r=.returned (.func (.func 53) #[] #[.pointer (some ⟨w.heap.size,0,none⟩)])∧w'=w.alloc (.cells v.cells 26):=by
 obtain⟨xk,xn,xu,xs,xa4,xn4,xc4,xa5,xn5,xc5,rfl⟩:=hv
 go_enter Try.func35,Try.ntmps35
 go_wp2_with fail
 go_ret
 exact⟨rfl,rfl⟩
theorem YQ (P:Tr→Prop) (hP:∀t,P t→∀x∈t.kids,P x) (n:Nat) (w0 w1:World) (Bt lo hi:Nat) (t:Tr) (v:Value) (hn:jL w0 t v) (hC:yY w0 w1) (hlo:w0.heap.size≤lo) (hhi:hi≤w1.heap.size) (hBt:w1.heap[Bt]? = some (.cells v.cells 26 (0,0))) (hsz:t.size≤1099511627776) (hPt:P t) :
 SeqStopsK Fence.wide n Try.prog 53 #[.pointer (some ⟨Bt,0,none⟩)] (kY.encs (P:=P) (w0:=w0)) (KpC lo hi) (fun ys=>ys.map kY.key=qP 0 t) (fun pre=>pre.map kY.key <+: qP 0 t) t.size w1:=by
 intro lp J Jx W hW hJ hJx hY h0
 have hG:jC w1 W:=hW
 have hbt:=hG.heap hBt
 have hwk:=zh (Q7 P hP w0 lp lo hi t.size J Jx hlo (fun s A B h hg=>AbidesFrom.grew hJ h hg) (fun m pre x W hj hl=>YieldAt.anyM (hY pre x W hj hl)) t.size t (Nat.le_refl _) hPt (n - 1) v 0 [] W hn (hC.keep hlo (KpC.of_grew hG:KpC lo hi _ _)) (Nat.le_trans hhi hG.size) h0 (by simp) (by omega))
 obtain⟨xk,xn,xu,xs,xa4,xn4,xc4,xa5,xn5,xc5,rfl⟩:=hn.node6
 simp only[Value.cells] at hbt
 have d0:=jA hbt 0 _ rfl
 have d1:=jA hbt 1 _ rfl
 have d2:=jA hbt 2 _ rfl
 have d3:=jA hbt 3 _ rfl
 have d4:=jA hbt 4 _ rfl
 have d5:=jA hbt 5 _ rfl
 have hdd:∀q:Nat,(Fence.wide.depth.isSome=true→1≤q):=fun q h=>by cases h
 clear hn hC hlo hhi hBt hW hJ hJx hY h0 hG hbt hsz
 refine callsIn_of_wp Try.func53 rfl trivial ?_ rfl
 simp only[Try.ntmps53,List.size_toArray,List.length_cons,List.length_nil,Nat.reduceAdd,Nat.reduceSub,Array.replicate_succ,Array.replicate_zero,List.push_toArray,List.append_toArray,List.nil_append,List.cons_append]
 gi_wp2_with (refine⟨trivial,hdd _,?_⟩;refine hwk.out.mono ?_;clear hwk;rintro e W1 (⟨rfl,⟨ys,hys,hj⟩,hk⟩ | ⟨rfl,ys,hys,hj⟩))
 ·go_end0
  exact⟨⟨_,rfl⟩,.inl ⟨ys,hys,by simpa using hj⟩⟩
 ·go_end0
  exact⟨⟨_,rfl⟩,.inr ⟨ys,hys,by simpa using hj⟩⟩
end Go.Proofs.Ytfbeepkogcmlmaa
