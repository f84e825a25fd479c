/-
  Texts of the proof.
-/
import Derived.Test.YtfbeepkogcmlmaaNormalKnownPAI
import Derived.Test.YtfbeepkogcmlmaaNormalKnownPAK
set_option linter.unusedVariables false
set_option linter.unusedSimpArgs false
set_option maxHeartbeats 16000000
set_option maxRecDepth 100000
namespace Go.Proofs.Ytfbeepkogcmlmaa
open Go Go.ChangeShapes Go.WideShapes Go.ChangeAt Go.RowKit Go.Joins Go.Deep Go.Shelf
attribute [local go_sem] Oper.semAt_some
def yZ (c:Nat):List (Nat × Tr)→Int
 | []=>0
 | (b,x)::r=>if 4096 < c+1 then 5 else if 64≤b then 61 else if jJ x=false then 60 else if kU x≠0 then kU x else yZ (c+1) r
def kL (t:Tr):Int:=yZ 0 (qP 0 t)
theorem qU {W W':World} {row:Option Nat} (hg:W.grownBy W' row) (hr:∀r,row=some r→∃o:Obj,W.heap[r]? = some o∧o.isCells=false) {k:Nat} {o:Obj} (hk:W.heap[k]? = some o) (ho:o.isCells=true):W'.heap[k]? = some o:=by
 refine (hg.block k (Array.getElem?_eq_some_iff.1 hk).1 (fun e=>?_)).trans hk
 obtain⟨q,hq,hc⟩:=hr k e.symm
 rw[hk] at hq;cases hq;rw[ho] at hc;cases hc
theorem vK {w W W':World} {row:Option Nat} {B:Nat} (h:jC w W) (hg:W.grownBy W' row) (hr:∀r,row=some r→B≤r) (hB:w.heap.size≤B):jC w W':=
 Below.grown h hg h.size (fun k e=>Nat.le_trans hB (hr k e))
def ChkI (w:World) (ps:List (Nat × Tr)) (W:World):Prop:=
 W.heap[w.heap.size+1]? = some (.cells #[.int .i64 0] 28 (0,0))∧W.heap[w.heap.size+2]? = some (.cells #[.int .i64 ps.length] 3 (0,0))∧jC w W∧∀rest,yZ 0 (ps++rest)=yZ ps.length rest
def ChkX (w:World) (ps:List (Nat × Tr)) (W:World):Prop:=
 ∃e:Int,W.heap[w.heap.size+1]? = some (.cells #[.int .i64 e] 28 (0,0))∧jC w W∧∀rest,yZ 0 (ps++rest)=e
theorem ChkI.own (w:World) {B:Nat} (hB:w.heap.size≤B):OwnFrom B (fun (s:List (kY (fun _=>True) w)) W=>ChkI w (s.map kY.key) W):=by
 rintro s A C row ⟨h1,h2,h3,h4⟩ hg hr
 exact⟨qU hg (fun r e=>(hr r e).2) h1 rfl,qU hg (fun r e=>(hr r e).2) h2 rfl,vK h3 hg (fun r e=>(hr r e).1) hB,h4⟩
theorem ChkX.own (w:World) {B:Nat} (hB:w.heap.size≤B):OwnFrom B (fun (s:List (kY (fun _=>True) w)) W=>ChkX w (s.map kY.key) W):=by
 rintro s A C row ⟨e,h1,h3,h4⟩ hg hr
 exact⟨e,qU hg (fun r e=>(hr r e).2) h1 rfl,vK h3 hg (fun r e=>(hr r e).1) hB,h4⟩
theorem ZB {B:Nat} {a b:World} (h:jC a b):KeepsFrom B a b:=⟨h.size,fun k o _ hk _=>(h.block k (Array.getElem?_eq_some_iff.1 hk).1).trans hk⟩
theorem KpC.setCell {lo hi:Nat} (W:World) (k:Nat) (h1:lo≤k) (h2:k < hi) (v:Value):KpC lo hi W (W.setCell ⟨k,0,none⟩ v):=
 ⟨by simp[World.setCell],fun i o ho _ hr=>(Below.heap_setCell W _ v i (by show i≠k;omega)).trans ho⟩
theorem a8 {w W:World} {k:Nat} (h:jC w W) (hk:w.heap.size≤k) (v:Value):jC w (W.setCell ⟨k,0,none⟩ v):=Below.setCell h hk v
theorem chk_ret {w W:World} {e e0:Int} {ps:List (Nat × Tr)} (h1:W.heap[w.heap.size+1]? = some (.cells #[.int .i64 e0] 28 (0,0))) (hg:jC w W) (h:∀rest,yZ 0 (ps++rest)=e):ChkX w ps (W.setCell ⟨w.heap.size+1,0,none⟩ (.int .i64 e)):=
 ⟨e,by have:=heap_setCell_same W (w.heap.size+1) 0 _ _ (.int .i64 e) h1;simpa using this,a8 hg (by omega) _,h⟩
theorem aF (t:Tr) (v:Value) (w:World) (hn:jL w t v) (hsz:t.size≤1099511627776) :
 Calls Try.prog 17 #[v] w fun r w'=>r=.returned (.int .i64 (kL t))∧jC w w':=by
 have h6:=hn.node6
 refine (callsIn_wide (n:=3)).1 ?_
 obtain⟨xk,xn,xu,xs,xa4,xn4,xc4,xa5,xn5,xc5,rfl⟩:=h6
 refine callsIn_of_wp_marks Try.func17 rfl trivial ?_ rfl
 simp only[Try.ntmps17,List.size_toArray,List.length_cons,List.length_nil,Nat.reduceAdd,Nat.reduceSub,Array.replicate_succ,Array.replicate_zero,List.push_toArray,List.append_toArray,List.nil_append,List.cons_append]
 have hdd:∀q:Nat,(Fence.wide.depth.isSome=true→1≤q):=fun q h=>by cases h
 gi_wp2_with (refine⟨trivial,?_⟩;refine (callsIn_wide.2 (Q8 _ _ ⟨_,_,_,_,_,_,_,_,_,_,rfl⟩)).mono ?_;rintro r w2 ⟨rfl,hw2⟩;have HW2:=zh hw2;clear hw2)
 obtain⟨V,hV⟩:∃V:Value,V=.agg #[.int .i64 xk,.int .i64 xn,.int .u64 xu,.string xs,.slice xa4 xn4 xc4,.slice xa5 xn5 xc5]:=⟨_,rfl⟩
 rw[← hV] at hn
 have HV:=zh hV
 have hF:Hid (jC w w2∧w2.heap.size=w.heap.size+4∧w2.heap[w.heap.size+1]? = some (.cells #[.int .i64 0] 28 (0,0))∧w2.heap[w.heap.size+2]? = some (.cells #[.int .i64 0] 3 (0,0))∧w2.heap[w.heap.size+3]? = some (.cells V.cells 26 (0,0))):=by
  show _∧_
  rw[HW2.out,hV]
  obtain⟨A,hA⟩:∃A,w.alloc (.cells #[.int .i64 xk,.int .i64 xn,.int .u64 xu,.string xs,.slice xa4 xn4 xc4,.slice xa5 xn5 xc5] 26)=A:=⟨_,rfl⟩
  have sA:A.heap.size=w.heap.size+1:=by rw[← hA,World.size_alloc]
  have gA:jC w A:=by rw[← hA];exact (jC.refl _).alloc _
  rw[hA]
  obtain⟨B,hB⟩:∃B,A.alloc (.cells #[.int .i64 0] 28)=B:=⟨_,rfl⟩
  have sB:B.heap.size=w.heap.size+2:=by rw[← hB,World.size_alloc,sA]
  have gB:jC A B:=by rw[← hB];exact (jC.refl _).alloc _
  have bB:=heap_alloc_new A (.cells #[.int .i64 0] 28)
  rw[hB,sA] at bB
  rw[hB]
  obtain⟨C,hC⟩:∃C,B.alloc (.cells #[.int .i64 0] 3)=C:=⟨_,rfl⟩
  have sC:C.heap.size=w.heap.size+3:=by rw[← hC,World.size_alloc,sB]
  have gC:jC B C:=by rw[← hC];exact (jC.refl _).alloc _
  have bC:=heap_alloc_new B (.cells #[.int .i64 0] 3)
  rw[hC,sB] at bC
  rw[hC]
  have gD:=(jC.refl C).alloc (.cells (Value.agg #[.int .i64 xk,.int .i64 xn,.int .u64 xu,.string xs,.slice xa4 xn4 xc4,.slice xa5 xn5 xc5]).cells 26)
  have bD:=heap_alloc_new C (.cells (Value.agg #[.int .i64 xk,.int .i64 xn,.int .u64 xu,.string xs,.slice xa4 xn4 xc4,.slice xa5 xn5 xc5]).cells 26)
  rw[sC] at bD
  exact⟨gA.trans (gB.trans (gC.trans gD)),by rw[World.size_alloc,sC],gD.heap (gC.heap bB),gD.heap bC,bD⟩
 refine wpIn_rangeFunc_ownH rfl (by omega) (gf:=53) (lb:=#[.pointer (some ⟨w.heap.size+3,0,none⟩)]) rfl trivial (enters_of Try.func53 zk rfl)
  (YQ (fun _=>True) (fun _ _ _ _=>trivial) _ w w2 (w.heap.size+3) w.heap.size (w.heap.size+3) t V hn (yY.of_grew hF.out.1) (Nat.le_refl _) (by have:=hF.out.2.1;omega) hF.out.2.2.2.2 hsz trivial)
  KpC.trans (fun W l o o' _ h ho _=>KpC.turn W l o o' h ho) (Below.refl _ _) (fun _=>rfl)
  (fun pre W=>ChkI w (pre.map kY.key) W) (fun c pre W=>c=.ret∧ChkX w (pre.map kY.key) W)
  (ChkI.own w hF.out.1.size) (fun c=>OwnFrom.and (ownFrom_pure _ _) (ChkX.own w hF.out.1.size))
  ⟨hF.out.2.2.1,hF.out.2.2.2.1,hF.out.1,fun rest=>rfl⟩
  (fun x a' W=>∃Bx,w.heap.size+3≤Bx∧W.heap[Bx]? = some (.cells x.1.2.1.cells 26 (0,0))∧a'={tmps:=#[.agg #[.int .i64 xk,.int .i64 xn,.int .u64 xu,.string xs,.slice xa4 xn4 xc4,.slice xa5 xn5 xc5],.pointer (some ⟨w.heap.size,0,none⟩),.pointer (some ⟨w.heap.size+1,0,none⟩),.pointer (some ⟨w.heap.size+2,0,none⟩),.int .i64 x.1.1,.pointer (some ⟨Bx,0,none⟩),undef,.agg #[.int .i64 xk,.int .i64 xn,.int .u64 xu,.string xs,.slice xa4 xn4 xc4,.slice xa5 xn5 xc5],.func (.func 53) #[] #[.pointer (some ⟨w.heap.size+3,0,none⟩)],.int .i64 x.1.1,x.1.2.1,undef,undef,undef,undef,undef,undef,undef,undef,undef,undef,undef,undef,undef,undef,undef,undef,undef],defers:=[]})
  ?hAx ?assign ?body ?done ?stop
 case hAx=>
  rintro x a' s A C row ⟨Bx,h1,h2,h3⟩ hg hr
  exact⟨Bx,h1,qU hg (fun r e=>(hr r e).2) h2 rfl,h3⟩
 case assign=>
  rintro l pre ⟨⟨b,v,x⟩,hx,hb⟩ W K hi hK
  obtain⟨yk,yn,yu,ys,ya4,yn4,yc4,ya5,yn5,yc5,rfl⟩:=hx.node6
  have HI:=zh hi
  have HK:=zh hK
  have HFF:=zh hF.out
  have hz:∀W:World,W.heap.size=W.heap.size:=fun _=>rfl
  clear hi hK hn hV HW2 HFF
  simp only[kY.encs]
  gi_wp2
  refine HK.out _ _ (KeepsOthers.from (KeepsOthers.alloc _ _) _) (KpC.of_grew ((jC.refl W).alloc _)) ?_ ⟨W.heap.size,?_,heap_alloc_new _ _,rfl⟩
  ·exact (ChkI.own w hF.out.1.size).alloc _ HI.out
  ·have h1:=(Array.getElem?_eq_some_iff.1 HI.out.2.1).1
   omega
 case body=>
  rintro l pre X a' W hl _ hi ⟨Bx,hBx,hbx,rfl⟩ hlt
  obtain⟨b,v,x,hX,hx,hb⟩:∃b v x,X.1=(b,v,x)∧jL w x v∧b≤1099511627776:=⟨X.1.1,X.1.2.1,X.1.2.2,rfl,X.2.1,X.2.2.1⟩
  have HXK:Hid (X.key=(b,x)):=by show _=_;simp[kY.key,hX]
  rw[hX] at hbx⊢
  clear hX
  have hxn:=hx
  obtain⟨yk,yn,yu,ys,ya4,yn4,yc4,ya5,yn5,yc5,rfl⟩:=hx.node6
  obtain⟨i1,i2,i3,i4⟩:=hi
  rw[List.length_map] at i2 i4
  simp only[Value.cells] at hbx
  have hwr:wrap64 ((pre.length:Int)+1)=(pre.length:Int)+1:=IntWalk.wrap64_in _ (by omega)
  have q2:=jA i2 0 _ rfl
  have f2:=jB i2 0
  obtain⟨W',hW'⟩:∃W',W.setCell ⟨w.heap.size+2,0,none⟩ (.int .i64 ((pre.length:Int)+1))=W':=⟨_,rfl⟩
  have hm:Moved (fun g=>g=w.heap.size+2) W W':=by rw[← hW'];exact Moved.setCell (S:=fun g=>g=w.heap.size+2) (p:=⟨w.heap.size+2,0,none⟩) (Moved.refl _ W) (fun _=>rfl) _
  have j1:=hm.heap i1 (by omega)
  have j2:W'.heap[w.heap.size+2]? = some (.cells #[.int .i64 ((pre.length:Int)+1)] 3 (0,0)):=by rw[← hW'];have:=heap_setCell_same W (w.heap.size+2) 0 _ _ (.int .i64 ((pre.length:Int)+1)) i2;simpa using this
  have jb:=hm.heap hbx (by omega)
  have j3:jC w W':=Moved.fresh i3 hm (fun g h=>by omega)
  have HKF:Hid (KeepsFrom w2.heap.size W W'∧KpC w.heap.size (w.heap.size+3) W W'):=by
   show _∧_
   rw[← hW']
   exact⟨KeepsOthers.from (KeepsOthers.setCell _ _ _) _,KpC.setCell _ _ (by omega) (by omega) _⟩
  have HSUCH:=zh (aZ x _ _ (hxn.grew j3))
  have HKEY:Hid (∀w3,jC W' w3→Calls Try.prog 37 #[.agg #[.int .i64 yk,.int .i64 yn,.int .u64 yu,.string ys,.slice ya4 yn4 yc4,.slice ya5 yn5 yc5]] w3 fun r w'=>r=.returned (.int .i64 (kU x))∧jC w3 w'):=fun w3 hg=>V8 x _ _ (hxn.grew (j3.trans hg))
  have HE:Hid (∀rest,yZ 0 ((pre.map kY.key++[(b,x)])++rest)=if 4096 < pre.length+1 then 5 else if 64≤b then 61 else if jJ x=false then 60 else if kU x≠0 then kU x else yZ (pre.length+1) rest):=by
   intro rest
   rw[List.append_assoc,i4]
   rfl
  have HJ:=zh (And.intro j1 (And.intro j2 (And.intro jb j3)))
  have c2:=jA j2 0 _ rfl
  have c1:=jA j1 0 _ rfl
  have f1:=jB j1 0
  have e0:=jA jb 0 _ rfl
  have e1:=jA jb 1 _ rfl
  have e2:=jA jb 2 _ rfl
  have e3:=jA jb 3 _ rfl
  have e4:=jA jb 4 _ rfl
  have e5:=jA jb 5 _ rfl
  have hbi:(b:Int)≤1099511627776:=by omega
  clear i1 i2 i3 i4 hbx hm j1 j2 jb j3 hx hl hlt hn hV HW2 hxn hb
  have HRET:Hid (∀(W3:World) (e:Int),jC W' W3→(∀rest,yZ 0 ((pre.map kY.key++[(b,x)])++rest)=e)→KeepsFrom w2.heap.size W (W3.setCell ⟨w.heap.size+1,0,none⟩ (.int .i64 e))∧ChkX w (List.map kY.key (pre++[X])) (W3.setCell ⟨w.heap.size+1,0,none⟩ (.int .i64 e))):=by
   intro W3 e hg he
   refine⟨(HKF.out.1.trans (ZB hg)).trans (KeepsOthers.from (KeepsOthers.setCell _ _ _) _),?_⟩
   rw[show List.map kY.key (pre++[X])=pre.map kY.key++[(b,x)] by rw[List.map_append,List.map_singleton,HXK.out]]
   exact chk_ret (hg.heap HJ.out.1) (HJ.out.2.2.2.trans hg) he
  by_cases h1:4096 < pre.length+1
  ·have h1i:(4096:Int) < (pre.length:Int)+1:=by omega
   have HF1:=zh h1
   clear h1
   gi_wp2
   have q:=HRET.out W' 5 (jC.refl _) (fun rest=>by rw[HE.out rest,if_pos HF1.out])
   exact⟨q.1,rfl,q.2⟩
  have h1i:¬(4096:Int) < (pre.length:Int)+1:=by omega
  have HF1:=zh h1
  clear h1
  by_cases h2:64≤b
  ·have h2i:(64:Int)≤(b:Int):=by omega
   have HF2:=zh h2
   clear h2
   gi_wp2
   have q:=HRET.out W' 61 (jC.refl _) (fun rest=>by rw[HE.out rest,if_neg HF1.out,if_pos HF2.out])
   exact⟨q.1,rfl,q.2⟩
  have h2i:¬(64:Int)≤(b:Int):=by omega
  have HF2:=zh h2
  clear h2
  cases hs:jJ x
  ·rw[hs] at HSUCH
   have HS:=zh hs
   clear hs
   gi_wp2_with (refine⟨trivial,?_⟩;refine (CallsIn.inRound l (callsIn_wide.2 HSUCH.out)).mono ?_;rintro r w3 ⟨rfl,hg3⟩;have d1:=jA (hg3.heap HJ.out.1) 0 _ rfl;have g1:=jB (hg3.heap HJ.out.1) 0;have HG3:=zh hg3;clear hg3)
   have q:=HRET.out _ 60 HG3.out (fun rest=>by rw[HE.out rest,if_neg HF1.out,if_neg HF2.out,if_pos HS.out])
   exact⟨q.1,rfl,q.2⟩
  ·rw[hs] at HSUCH
   have HS:Hid (¬jJ x=false):=by show ¬_;rw[hs];simp
   clear hs
   obtain⟨E,hE⟩:∃E,kU x=E:=⟨_,rfl⟩
   rw[hE] at HKEY
   by_cases h4:E=0
   ·subst h4
    gi_wp2_with (first
     | (refine⟨trivial,?_⟩;gi_at_call 36;refine (CallsIn.inRound l (callsIn_wide.2 HSUCH.out)).mono ?_;clear HSUCH;rintro r w3 ⟨rfl,hg3⟩;have d0:=jA (hg3.heap HJ.out.2.2.1) 0 _ rfl;have d1:=jA (hg3.heap HJ.out.2.2.1) 1 _ rfl;have d2:=jA (hg3.heap HJ.out.2.2.1) 2 _ rfl;have d3:=jA (hg3.heap HJ.out.2.2.1) 3 _ rfl;have d4:=jA (hg3.heap HJ.out.2.2.1) 4 _ rfl;have d5:=jA (hg3.heap HJ.out.2.2.1) 5 _ rfl;have HG3:=zh hg3;clear hg3)
     | (refine⟨trivial,?_⟩;gi_at_call 37;refine (CallsIn.inRound l (callsIn_wide.2 (HKEY.out _ HG3.out))).mono ?_;clear HKEY;rintro r w4 ⟨rfl,hg4⟩;have HG4:=zh (HG3.out.trans hg4);have g1:=jB (HG4.out.heap HJ.out.1) 0;have r1:=jA (HG4.out.heap HJ.out.1) 0 _ rfl;clear hg4))
    refine⟨HKF.out.1.trans (ZB HG4.out),HKF.out.2.trans (KpC.of_grew HG4.out),?_⟩
    show ChkI w (List.map kY.key (pre++[X])) _
    rw[show List.map kY.key (pre++[X])=pre.map kY.key++[(b,x)] by rw[List.map_append,List.map_singleton,HXK.out]]
    refine⟨HG4.out.heap HJ.out.1,?_,HJ.out.2.2.2.trans HG4.out,fun rest=>?_⟩
    ·rw[List.length_append,List.length_map]
     exact HG4.out.heap HJ.out.2.1
    ·rw[HE.out rest,if_neg HF1.out,if_neg HF2.out,if_neg HS.out,if_neg (by rw[hE];simp),List.length_append,List.length_map]
     rfl
   ·have h4b:(E == 0)=false:=by simpa using h4
    have HE4:=zh h4
    have HEE:=zh hE
    clear h4 hE
    gi_wp2_with (first
     | (refine⟨trivial,?_⟩;gi_at_call 36;refine (CallsIn.inRound l (callsIn_wide.2 HSUCH.out)).mono ?_;clear HSUCH;rintro r w3 ⟨rfl,hg3⟩;have d0:=jA (hg3.heap HJ.out.2.2.1) 0 _ rfl;have d1:=jA (hg3.heap HJ.out.2.2.1) 1 _ rfl;have d2:=jA (hg3.heap HJ.out.2.2.1) 2 _ rfl;have d3:=jA (hg3.heap HJ.out.2.2.1) 3 _ rfl;have d4:=jA (hg3.heap HJ.out.2.2.1) 4 _ rfl;have d5:=jA (hg3.heap HJ.out.2.2.1) 5 _ rfl;have HG3:=zh hg3;clear hg3)
     | (refine⟨trivial,?_⟩;gi_at_call 37;refine (CallsIn.inRound l (callsIn_wide.2 (HKEY.out _ HG3.out))).mono ?_;clear HKEY;rintro r w4 ⟨rfl,hg4⟩;have HG4:=zh (HG3.out.trans hg4);have g1:=jB (HG4.out.heap HJ.out.1) 0;have r1:=jA (HG4.out.heap HJ.out.1) 0 _ rfl;clear hg4))
    have q:=HRET.out _ E HG4.out (fun rest=>by rw[HE.out rest,if_neg HF1.out,if_neg HF2.out,if_neg HS.out,HEE.out,if_pos HE4.out])
    exact⟨q.1,rfl,q.2⟩
 case done=>
  rintro D ys W hD hys ⟨h1,h2,h3,h4⟩ hK
  have HZ:Hid (kL t=0):=by
   have:=h4 []
   rw[List.append_nil,hys] at this
   exact this
  have c1:=jA h1 0 _ rfl
  have f1:=jB h1 0
  obtain⟨W',hW'⟩:∃W',W.setCell ⟨w.heap.size+1,0,none⟩ (.int .i64 0)=W':=⟨_,rfl⟩
  have hdl:=hF.out.2.1
  have hm:Moved (fun g=>g=w.heap.size+1) W W':=by rw[← hW'];exact Moved.setCell (S:=fun g=>g=w.heap.size+1) (p:=⟨w.heap.size+1,0,none⟩) (Moved.refl _ W) (fun _=>rfl) _
  have hK':=hm.heap hK (by omega)
  have hb':W'.heap[w.heap.size+1]? = some (.cells #[.int .i64 0] 28 (0,0)):=by rw[← hW'];have:=heap_setCell_same W (w.heap.size+1) 0 _ _ (.int .i64 0) h1;simpa using this
  have hg':jC w W':=Moved.fresh h3 hm (fun g h=>by omega)
  have HB:=zh (And.intro hb' hg')
  have HKK:=zh hK'
  have HDL:Hid (w.heap.size+4≤D):=by show _≤_;omega
  clear h1 h2 h3 h4 hys hm hK hK' hb' hg' hD hdl hn hV HW2
  gi_wp2
  refine⟨by simp,.inl ⟨_,_,rfl,run_takeDeferred HKK.out,?_⟩⟩
  have hput:jC w (W'.putObj D (.deferred none)):=vK HB.out.2 (grownBy_putObj' W' D _) (fun r e=>by cases e;exact Nat.le_refl _) (by have:=HDL.out;omega)
  have zG:=jA ((World.putObj_heap_other (by have:=HDL.out;omega:w.heap.size+1≠D)).trans HB.out.1:(W'.putObj D (.deferred none)).heap[w.heap.size+1]? = _) 0 _ rfl
  refine⟨.int .i64 0,by simp[results,Try.results17,go_sem,zG],by rw[HZ.out],hput⟩
 case stop=>
  rintro D c pre W' hD ⟨zs,hpre⟩ ⟨rfl,e,h1,h2,h3⟩ hK
  have HZ:Hid (kL t=e):=by
   have:=h3 zs
   rw[hpre] at this
   exact this
  have hdl:=hF.out.2.1
  have HB:=zh (And.intro h1 h2)
  have HKK:=zh hK
  have HDL:Hid (w.heap.size+4≤D):=by show _≤_;omega
  clear h1 h2 h3 hpre hK hD hdl hn hV HW2
  gi_wp2
  refine⟨by simp,.inl ⟨_,_,rfl,run_takeDeferred HKK.out,?_⟩⟩
  have hput:jC w (W'.putObj D (.deferred none)):=vK HB.out.2 (grownBy_putObj' W' D _) (fun r e=>by cases e;exact Nat.le_refl _) (by have:=HDL.out;omega)
  have zG:=jA ((World.putObj_heap_other (by have:=HDL.out;omega:w.heap.size+1≠D)).trans HB.out.1:(W'.putObj D (.deferred none)).heap[w.heap.size+1]? = _) 0 _ rfl
  refine⟨.int .i64 e,by simp[results,Try.results17,go_sem,zG],by rw[HZ.out],hput⟩
attribute [local go_sem] Oper.semAt_some
end Go.Proofs.Ytfbeepkogcmlmaa
