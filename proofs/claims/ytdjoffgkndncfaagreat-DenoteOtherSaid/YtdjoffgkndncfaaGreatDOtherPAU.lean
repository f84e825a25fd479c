/-Texts-/
import Derived.Test.YtdjoffgkndncfaaGreatDOtherPAM
import Derived.Test.YtdjoffgkndncfaaGreatDOtherPAT
set_option linter.unusedVariables false
set_option linter.unusedSimpArgs false
set_option maxHeartbeats 16000000
set_option maxRecDepth 100000
namespace Go.Proofs.YtdjoffgkndncfaaGreat
open Go.Proofs.Tryz
open Go Go.ChangeShapes Go.WideShapes Go.ChangeAt Go.RowKit Go.Joins Go.Deep Go.Shelf
variable {W W' w:World} {row:Option Nat} {k B:Nat} {ps:List (Nat × Tr)}
attribute [local go_sem] Oper.semAt_some
def ZQ (c:Nat):List (Nat × Tr)→Int
 | []=>0
 | (b,x)::r=>if 4096 < c+1 then 5 else if 64≤b then 61 else if zD x=false then 60 else if qH x≠0 then qH x else ZQ (c+1) r
def JZ (t:Tr):Int:=ZQ 0 (vP 0 t)
theorem qC (hg:W.grownBy W' row) (hr:∀r,row=some r→∃o:Obj,W.heap[r]? = some o∧o.isCells=false) {o:Obj} (hk:W.heap[k]? = some o) (ho:o.isCells=true):W'.heap[k]? = some o:=by
 refine (hg.block k (zc.1 hk).1 (λe=>?_)).trans hk;obtain⟨q,hq,hc⟩:=hr k e.symm;rw[hk] at hq;cases hq;rw[ho] at hc;cases hc
theorem JP (h:jC w W) (hg:W.grownBy W' row) (hr:∀r,row=some r→B≤r) (hB:w.heap.size≤B):jC w W':=
 Below.grown h hg h.size (λk e=>zf hB (hr k e))
def ChkI (w:World) (ps:List (Nat × Tr)) (W:World):Prop:=
 W.heap[w.heap.size+1]? = some (.cells #[.int .i64 0] 29 (0,0))∧W.heap[w.heap.size+2]? = some (.cells #[.int .i64 ps.length] 3 (0,0))∧jC w W∧∀rest,ZQ 0 (ps++rest)=ZQ ps.length rest
def ChkX (w:World) (ps:List (Nat × Tr)) (W:World):Prop:=
 ∃e:Int,W.heap[w.heap.size+1]? = some (.cells #[.int .i64 e] 29 (0,0))∧jC w W∧∀rest,ZQ 0 (ps++rest)=e
theorem ChkI.own (w:World) (hB:w.heap.size≤B):OwnFrom B (λ(s:List (yC (λ_=>True) w)) W=>ChkI w (s.map yC.key) W):=by
 rintro s A C row ⟨h1,h2,h3,h4⟩ hg hr;exact⟨qC hg (λr e=>(hr r e).2) h1 rfl,qC hg (λr e=>(hr r e).2) h2 rfl,JP h3 hg (λr e=>(hr r e).1) hB,h4⟩
theorem ChkX.own (w:World) (hB:w.heap.size≤B):OwnFrom B (λ(s:List (yC (λ_=>True) w)) W=>ChkX w (s.map yC.key) W):=by
 rintro s A C row ⟨e,h1,h3,h4⟩ hg hr;exact⟨e,qC hg (λr e=>(hr r e).2) h1 rfl,JP h3 hg (λr e=>(hr r e).1) hB,h4⟩
theorem VF {a b:World} (h:jC a b):KeepsFrom B a b:=⟨h.size,λk o _ hk _=>(h.block k (zc.1 hk).1).trans hk⟩
theorem KpC.setCell {lo hi:Nat} (W:World) (k:Nat) (h1:lo≤k) (h2:k < hi) (v:Value):KpC lo hi W (W.setCell ⟨k,0,none⟩ v):=
 ⟨by simp[World.setCell],λi o ho _ hr=>(Below.heap_setCell W _ v i (by show i≠k;omega)).trans ho⟩
theorem LF (h:jC w W) (hk:w.heap.size≤k) (v:Value):jC w (W.setCell ⟨k,0,none⟩ v):=Below.setCell h hk v
theorem chk_ret {e e0:Int} (h1:W.heap[w.heap.size+1]? = some (.cells #[.int .i64 e0] 29 (0,0))) (hg:jC w W) (h:∀rest,ZQ 0 (ps++rest)=e):ChkX w ps (W.setCell ⟨w.heap.size+1,0,none⟩ (.int .i64 e)):=
 ⟨e,by have:=heap_setCell_same W (w.heap.size+1) 0 _ _ (.int .i64 e) h1;simpa using this,LF hg zo _,h⟩
theorem BT (t:Tr) (v:Value) (w:World) (hn:jM w t v) (hsz:t.size≤1099511627776) :
 Calls prog 12 #[v] w λr w'=>r=.returned (.int .i64 (JZ t))∧jC w w':=by
 have h6:=hn.node6;refine (callsIn_wide (n:=3)).1 ?_;obtain⟨xk,xn,xu,xs,xa4,xn4,xc4,xa5,xn5,xc5,rfl⟩:=h6;refine callsIn_of_wp_marks func12 rfl trivial ?_ rfl;simp only[ntmps12,xt,zz,qg,Nat.reduceAdd,Nat.reduceSub,Array.replicate_succ,Array.replicate_zero,List.push_toArray,List.append_toArray,xm,qz];have hdd:∀q:Nat,(Fence.wide.depth.isSome=true→1≤q):=λq h=>by cases h
 gi_wp2_with (refine⟨trivial,?_⟩;refine (callsIn_wide.2 (cQ _ _ ⟨_,_,_,_,_,_,_,_,_,_,rfl⟩)).mono ?_;rintro r w2 ⟨rfl,hw2⟩;have HW2:=zh hw2;clear hw2)
 obtain⟨V,hV⟩:∃V:Value,V=.agg #[.int .i64 xk,.int .i64 xn,.int .u64 xu,.string xs,.slice xa4 xn4 xc4,.slice xa5 xn5 xc5]:=⟨_,rfl⟩;rw[← hV] at hn;have HV:=zh hV
 have hF:Hid (jC w w2∧w2.heap.size=w.heap.size+4∧w2.heap[w.heap.size+1]? = some (.cells #[.int .i64 0] 29 (0,0))∧w2.heap[w.heap.size+2]? = some (.cells #[.int .i64 0] 3 (0,0))∧w2.heap[w.heap.size+3]? = some (.cells V.cells 26 (0,0))):=by
  show _∧_;rw[HW2,hV];obtain⟨A,hA⟩:∃A,w.alloc (.cells #[.int .i64 xk,.int .i64 xn,.int .u64 xu,.string xs,.slice xa4 xn4 xc4,.slice xa5 xn5 xc5] 26)=A:=⟨_,rfl⟩;have sA:A.heap.size=w.heap.size+1:=by rw[← hA,zm]
  have gA:jC w A:=by rw[← hA];exact (jC.refl _).alloc _
  rw[hA];obtain⟨B,hB⟩:∃B,A.alloc (.cells #[.int .i64 0] 29)=B:=⟨_,rfl⟩;have sB:B.heap.size=w.heap.size+2:=by rw[← hB,zm,sA]
  have gB:jC A B:=by rw[← hB];exact (jC.refl _).alloc _
  have bB:=qc A (.cells #[.int .i64 0] 29);rw[hB,sA] at bB;rw[hB];obtain⟨C,hC⟩:∃C,B.alloc (.cells #[.int .i64 0] 3)=C:=⟨_,rfl⟩;have sC:C.heap.size=w.heap.size+3:=by rw[← hC,zm,sB]
  have gC:jC B C:=by rw[← hC];exact (jC.refl _).alloc _
  have bC:=qc B (.cells #[.int .i64 0] 3);rw[hC,sB] at bC;rw[hC];have gD:=(jC.refl C).alloc (.cells (Value.agg #[.int .i64 xk,.int .i64 xn,.int .u64 xu,.string xs,.slice xa4 xn4 xc4,.slice xa5 xn5 xc5]).cells 26);have bD:=qc C (.cells (Value.agg #[.int .i64 xk,.int .i64 xn,.int .u64 xu,.string xs,.slice xa4 xn4 xc4,.slice xa5 xn5 xc5]).cells 26);rw[sC] at bD;exact⟨gA.trans (gB.trans (gC.trans gD)),by rw[zm,sC],gD.heap (gC.heap bB),gD.heap bC,bD⟩
 refine wpIn_rangeFunc_ownH rfl zo (gf:=60) (lb:=#[.pointer (some ⟨w.heap.size+3,0,none⟩)]) rfl trivial (enters_of func60 zk rfl)
  (VE (λ_=>True) (λ_ _ _ _=>trivial) _ w w2 (w.heap.size+3) w.heap.size (w.heap.size+3) t V hn (vZ.of_grew hF.1) (zr _) (by have:=hF.2.1;omega) hF.2.2.2.2 hsz trivial)
  KpC.trans (λW l o o' _ h ho _=>KpC.turn W l o o' h ho) (Below.refl _ _) (λ_=>rfl)
  (λpre W=>ChkI w (pre.map yC.key) W) (λc pre W=>c=.ret∧ChkX w (pre.map yC.key) W)
  (ChkI.own w hF.1.size) (λc=>OwnFrom.and (ownFrom_pure _ _) (ChkX.own w hF.1.size))
  ⟨hF.2.2.1,hF.2.2.2.1,hF.1,λrest=>rfl⟩
  (λx a' W=>∃Bx,w.heap.size+3≤Bx∧W.heap[Bx]? = some (.cells x.1.2.1.cells 26 (0,0))∧a'={tmps:=#[.agg #[.int .i64 xk,.int .i64 xn,.int .u64 xu,.string xs,.slice xa4 xn4 xc4,.slice xa5 xn5 xc5],.pointer (some ⟨w.heap.size,0,none⟩),.pointer (some ⟨w.heap.size+1,0,none⟩),.pointer (some ⟨w.heap.size+2,0,none⟩),.int .i64 x.1.1,.pointer (some ⟨Bx,0,none⟩),undef,.agg #[.int .i64 xk,.int .i64 xn,.int .u64 xu,.string xs,.slice xa4 xn4 xc4,.slice xa5 xn5 xc5],.func (.func 60) #[] #[.pointer (some ⟨w.heap.size+3,0,none⟩)],.int .i64 x.1.1,x.1.2.1,undef,undef,undef,undef,undef,undef,undef,undef,undef,undef,undef,undef,undef,undef,undef,undef,undef],defers:=[]})
  ?hAx ?assign ?body ?done ?stop
 case hAx=>
  rintro x a' s A C row ⟨Bx,h1,h2,h3⟩ hg hr;exact⟨Bx,h1,qC hg (λr e=>(hr r e).2) h2 rfl,h3⟩
 case assign=>
  rintro l pre ⟨⟨b,v,x⟩,hx,hb⟩ W K hi hK;obtain⟨yk,yn,yu,ys,ya4,yn4,yc4,ya5,yn5,yc5,rfl⟩:=hx.node6;have HI:=zh hi;have HK:=zh hK;have HFF:=zh hF.out;have hz:∀W:World,W.heap.size=W.heap.size:=λ_=>rfl;clear hi hK hn hV HW2 HFF;simp only[yC.encs]
  gi_wp2
  refine HK.out _ _ (KeepsOthers.from (KeepsOthers.alloc _ _) _) (KpC.of_grew ((jC.refl W).alloc _)) ?_ ⟨W.heap.size,?_,qc _ _,rfl⟩
  ·exact (ChkI.own w hF.1.size).alloc _ HI.out
  have h1:=(zc.1 HI.2.1).1;omega
 case body=>
  rintro l pre X a' W hl _ hi ⟨Bx,hBx,hbx,rfl⟩ hlt;obtain⟨b,v,x,hX,hx,hb⟩:∃b v x,X.1=(b,v,x)∧jM w x v∧b≤1099511627776:=⟨X.1.1,X.1.2.1,X.1.2.2,rfl,X.2.1,X.2.2.1⟩;have HXK:Hid (X.key=(b,x)):=by show _=_;simp[yC.key,hX]
  rw[hX] at hbx⊢;clear hX;have hxn:=hx;obtain⟨yk,yn,yu,ys,ya4,yn4,yc4,ya5,yn5,yc5,rfl⟩:=hx.node6;obtain⟨i1,i2,i3,i4⟩:=hi;rw[qb] at i2 i4;simp only[Value.cells] at hbx;have hwr:wrap64 ((pre.length:Int)+1)=(pre.length:Int)+1:=IntWalk.wrap64_in _ zo;have q2:=jA i2 0 _ rfl;have f2:=jE i2 0;obtain⟨W',hW'⟩:∃W',W.setCell ⟨w.heap.size+2,0,none⟩ (.int .i64 ((pre.length:Int)+1))=W':=⟨_,rfl⟩;have hm:Moved (λg=>g=w.heap.size+2) W W':=by rw[← hW'];exact Moved.setCell (S:=λg=>g=w.heap.size+2) (p:=⟨w.heap.size+2,0,none⟩) (Moved.refl _ W) (λ_=>rfl) _
  have j1:=hm.heap i1 zo;have j2:W'.heap[w.heap.size+2]? = some (.cells #[.int .i64 ((pre.length:Int)+1)] 3 (0,0)):=by rw[← hW'];have:=heap_setCell_same W (w.heap.size+2) 0 _ _ (.int .i64 ((pre.length:Int)+1)) i2;simpa using this
  have jb:=hm.heap hbx zo;have j3:jC w W':=Moved.fresh i3 hm (λg h=>by omega)
  have HKF:Hid (KeepsFrom w2.heap.size W W'∧KpC w.heap.size (w.heap.size+3) W W'):=by
   show _∧_;rw[← hW'];exact⟨KeepsOthers.from (KeepsOthers.setCell _ _ _) _,KpC.setCell _ _ zo zo _⟩
  have HSUCH:=zh (H7 x _ _ (hxn.grew j3));have HKEY:Hid (∀w3,jC W' w3→Calls prog 37 #[.agg #[.int .i64 yk,.int .i64 yn,.int .u64 yu,.string ys,.slice ya4 yn4 yc4,.slice ya5 yn5 yc5]] w3 λr w'=>r=.returned (.int .i64 (qH x))∧jC w3 w'):=λw3 hg=>EO x _ _ (hxn.grew (j3.trans hg))
  have HE:Hid (∀rest,ZQ 0 ((pre.map yC.key++[(b,x)])++rest)=if 4096 < pre.length+1 then 5 else if 64≤b then 61 else if zD x=false then 60 else if qH x≠0 then qH x else ZQ (pre.length+1) rest):=by
   intro rest;rw[qe,i4];rfl
  have HJ:=zh (qa j1 (qa j2 (qa jb j3)));have c2:=jA j2 0 _ rfl;have c1:=jA j1 0 _ rfl;have f1:=jE j1 0;obtain⟨e0,e1,e2,e3,e4,e5⟩:=sqr6 jb;have hbi:(b:Int)≤1099511627776:=by omega
  clear i1 i2 i3 i4 hbx hm j1 j2 jb j3 hx hl hlt hn hV HW2 hxn hb
  have HRET:Hid (∀(W3:World) (e:Int),jC W' W3→(∀rest,ZQ 0 ((pre.map yC.key++[(b,x)])++rest)=e)→KeepsFrom w2.heap.size W (W3.setCell ⟨w.heap.size+1,0,none⟩ (.int .i64 e))∧ChkX w (List.map yC.key (pre++[X])) (W3.setCell ⟨w.heap.size+1,0,none⟩ (.int .i64 e))):=by
   intro W3 e hg he;refine⟨(HKF.1.trans (VF hg)).trans (KeepsOthers.from (KeepsOthers.setCell _ _ _) _),?_⟩;rw[show List.map yC.key (pre++[X])=pre.map yC.key++[(b,x)] by rw[xb,List.map_singleton,HXK]];exact chk_ret (hg.heap HJ.1) (HJ.2.2.2.trans hg) he
  by_cases h1:4096 < pre.length+1
  ·have h1i:(4096:Int) < (pre.length:Int)+1:=by omega
   have HF1:=zh h1;clear h1
   gi_wp2
   have q:=HRET.out W' 5 (jC.refl _) (λrest=>by rw[HE.out rest,zl HF1.out]);exact⟨q.1,rfl,q.2⟩
  have h1i:¬(4096:Int) < (pre.length:Int)+1:=by omega
  have HF1:=zh h1;clear h1;by_cases h2:64≤b
  ·have h2i:(64:Int)≤(b:Int):=by omega
   have HF2:=zh h2;clear h2
   gi_wp2
   have q:=HRET.out W' 61 (jC.refl _) (λrest=>by rw[HE.out rest,ze HF1.out,zl HF2.out]);exact⟨q.1,rfl,q.2⟩
  have h2i:¬(64:Int)≤(b:Int):=by omega
  have HF2:=zh h2;clear h2;cases hs:zD x
  ·rw[hs] at HSUCH;have HS:=zh hs;clear hs
   gi_wp2_with (refine⟨trivial,?_⟩;refine (CallsIn.inRound l (callsIn_wide.2 HSUCH.out)).mono ?_;rintro r w3 ⟨rfl,hg3⟩;have d1:=jA (hg3.heap HJ.1) 0 _ rfl;have g1:=jE (hg3.heap HJ.1) 0;have HG3:=zh hg3;clear hg3)
   have q:=HRET.out _ 60 HG3.out (λrest=>by rw[HE.out rest,ze HF1.out,ze HF2.out,zl HS.out]);exact⟨q.1,rfl,q.2⟩
  rw[hs] at HSUCH;have HS:Hid (¬zD x=false):=by show ¬_;rw[hs];simp
  clear hs;obtain⟨E,hE⟩:∃E,qH x=E:=⟨_,rfl⟩;rw[hE] at HKEY;by_cases h4:E=0
  ·subst h4
   gi_wp2_with (first
    | (refine⟨trivial,?_⟩;gi_at_call 36;refine (CallsIn.inRound l (callsIn_wide.2 HSUCH.out)).mono ?_;clear HSUCH;rintro r w3 ⟨rfl,hg3⟩;have d0:=jA (hg3.heap HJ.2.2.1) 0 _ rfl;have d1:=jA (hg3.heap HJ.2.2.1) 1 _ rfl;have d2:=jA (hg3.heap HJ.2.2.1) 2 _ rfl;have d3:=jA (hg3.heap HJ.2.2.1) 3 _ rfl;have d4:=jA (hg3.heap HJ.2.2.1) 4 _ rfl;have d5:=jA (hg3.heap HJ.2.2.1) 5 _ rfl;have HG3:=zh hg3;clear hg3)
    | (refine⟨trivial,?_⟩;gi_at_call 37;refine (CallsIn.inRound l (callsIn_wide.2 (HKEY.out _ HG3.out))).mono ?_;clear HKEY;rintro r w4 ⟨rfl,hg4⟩;have HG4:=zh (HG3.trans hg4);have g1:=jE (HG4.heap HJ.1) 0;have r1:=jA (HG4.heap HJ.1) 0 _ rfl;clear hg4))
   refine⟨HKF.1.trans (VF HG4.out),HKF.2.trans (KpC.of_grew HG4.out),?_⟩;show ChkI w (List.map yC.key (pre++[X])) _;rw[show List.map yC.key (pre++[X])=pre.map yC.key++[(b,x)] by rw[xb,List.map_singleton,HXK]];refine⟨HG4.heap HJ.1,?_,HJ.2.2.2.trans HG4.out,λrest=>?_⟩
   ·rw[zb,qb];exact HG4.heap HJ.2.1
   rw[HE.out rest,ze HF1.out,ze HF2.out,ze HS.out,ze (by rw[hE];simp),zb,qb];rfl
  have h4b:(E == 0)=false:=(by simpa using h4);have HE4:=zh h4;have HEE:=zh hE;clear h4 hE
  gi_wp2_with (first
   | (refine⟨trivial,?_⟩;gi_at_call 36;refine (CallsIn.inRound l (callsIn_wide.2 HSUCH.out)).mono ?_;clear HSUCH;rintro r w3 ⟨rfl,hg3⟩;have d0:=jA (hg3.heap HJ.2.2.1) 0 _ rfl;have d1:=jA (hg3.heap HJ.2.2.1) 1 _ rfl;have d2:=jA (hg3.heap HJ.2.2.1) 2 _ rfl;have d3:=jA (hg3.heap HJ.2.2.1) 3 _ rfl;have d4:=jA (hg3.heap HJ.2.2.1) 4 _ rfl;have d5:=jA (hg3.heap HJ.2.2.1) 5 _ rfl;have HG3:=zh hg3;clear hg3)
   | (refine⟨trivial,?_⟩;gi_at_call 37;refine (CallsIn.inRound l (callsIn_wide.2 (HKEY.out _ HG3.out))).mono ?_;clear HKEY;rintro r w4 ⟨rfl,hg4⟩;have HG4:=zh (HG3.trans hg4);have g1:=jE (HG4.heap HJ.1) 0;have r1:=jA (HG4.heap HJ.1) 0 _ rfl;clear hg4))
  have q:=HRET.out _ E HG4.out (λrest=>by rw[HE.out rest,ze HF1.out,ze HF2.out,ze HS.out,HEE,zl HE4.out]);exact⟨q.1,rfl,q.2⟩
 case done=>
  rintro D ys W hD hys ⟨h1,h2,h3,h4⟩ hK
  have HZ:Hid (JZ t=0):=by
   have:=h4 [];rw[List.append_nil,hys] at this;exact this
  have c1:=jA h1 0 _ rfl;have f1:=jE h1 0;obtain⟨W',hW'⟩:∃W',W.setCell ⟨w.heap.size+1,0,none⟩ (.int .i64 0)=W':=⟨_,rfl⟩;have hdl:=hF.2.1;have hm:Moved (λg=>g=w.heap.size+1) W W':=by rw[← hW'];exact Moved.setCell (S:=λg=>g=w.heap.size+1) (p:=⟨w.heap.size+1,0,none⟩) (Moved.refl _ W) (λ_=>rfl) _
  have hK':=hm.heap hK zo;have hb':W'.heap[w.heap.size+1]? = some (.cells #[.int .i64 0] 29 (0,0)):=by rw[← hW'];have:=heap_setCell_same W (w.heap.size+1) 0 _ _ (.int .i64 0) h1;simpa using this
  have hg':jC w W':=Moved.fresh h3 hm (λg h=>by omega);have HB:=zh (qa hb' hg');have HKK:=zh hK';have HDL:Hid (w.heap.size+4≤D):=by show _≤_;omega
  clear h1 h2 h3 h4 hys hm hK hK' hb' hg' hD hdl hn hV HW2
  gi_wp2
  refine⟨by simp,.inl ⟨_,_,rfl,run_takeDeferred HKK.out,?_⟩⟩;have hput:jC w (W'.putObj D (.deferred none)):=JP HB.2 (grownBy_putObj' W' D _) (λr e=>by cases e;exact zr _) zp25;have kM:=jA ((World.putObj_heap_other (by have:=HDL.out;omega:w.heap.size+1≠D)).trans HB.1:(W'.putObj D (.deferred none)).heap[w.heap.size+1]? = _) 0 _ rfl;refine⟨.int .i64 0,by simp[results,results12,go_sem,kM],by rw[HZ],hput⟩
 case stop=>
  rintro D c pre W' hD ⟨zs,hpre⟩ ⟨rfl,e,h1,h2,h3⟩ hK
  have HZ:Hid (JZ t=e):=by
   have:=h3 zs;rw[hpre] at this;exact this
  have hdl:=hF.2.1;have HB:=zh (qa h1 h2);have HKK:=zh hK;have HDL:Hid (w.heap.size+4≤D):=by show _≤_;omega
  clear h1 h2 h3 hpre hK hD hdl hn hV HW2
  gi_wp2
  refine⟨by simp,.inl ⟨_,_,rfl,run_takeDeferred HKK.out,?_⟩⟩;have hput:jC w (W'.putObj D (.deferred none)):=JP HB.2 (grownBy_putObj' W' D _) (λr e=>by cases e;exact zr _) zp25;have kM:=jA ((World.putObj_heap_other (by have:=HDL.out;omega:w.heap.size+1≠D)).trans HB.1:(W'.putObj D (.deferred none)).heap[w.heap.size+1]? = _) 0 _ rfl;refine⟨.int .i64 e,by simp[results,results12,go_sem,kM],by rw[HZ],hput⟩
attribute [local go_sem] Oper.semAt_some
def SzI (w:World) (n:Nat) (W:World):Prop:=W.heap[w.heap.size+1]? = some (.cells #[.int .i64 n] 3 (0,0))∧jC w W
theorem SzI.own (w:World) (hB:w.heap.size≤B):OwnFrom B (λ(s:List (yC (λ_=>True) w)) W=>SzI w s.length W):=by
 rintro s A C row ⟨h1,h3⟩ hg hr;exact⟨qC hg (λr e=>(hr r e).2) h1 rfl,JP h3 hg (λr e=>(hr r e).1) hB⟩
theorem LG (t:Tr) (v:Value) (w:World) (hn:jM w t v) (hsz:t.size≤1099511627776) :
 Calls prog 30 #[v] w λr w'=>r=.returned (.int .i64 t.size)∧jC w w':=by
 have h6:=hn.node6;refine (callsIn_wide (n:=3)).1 ?_;obtain⟨xk,xn,xu,xs,xa4,xn4,xc4,xa5,xn5,xc5,rfl⟩:=h6;refine callsIn_of_wp_marks func30 rfl trivial ?_ rfl;simp only[ntmps30,xt,zz,qg,Nat.reduceAdd,Nat.reduceSub,Array.replicate_succ,Array.replicate_zero,List.push_toArray,List.append_toArray,xm,qz];have hdd:∀q:Nat,(Fence.wide.depth.isSome=true→1≤q):=λq h=>by cases h
 gi_wp2_with (refine⟨trivial,?_⟩;refine (callsIn_wide.2 (cQ _ _ ⟨_,_,_,_,_,_,_,_,_,_,rfl⟩)).mono ?_;rintro r w2 ⟨rfl,hw2⟩;have HW2:=zh hw2;clear hw2)
 obtain⟨V,hV⟩:∃V:Value,V=.agg #[.int .i64 xk,.int .i64 xn,.int .u64 xu,.string xs,.slice xa4 xn4 xc4,.slice xa5 xn5 xc5]:=⟨_,rfl⟩;rw[← hV] at hn;have HV:=zh hV
 have hF:Hid (jC w w2∧w2.heap.size=w.heap.size+3∧w2.heap[w.heap.size+1]? = some (.cells #[.int .i64 0] 3 (0,0))∧w2.heap[w.heap.size+2]? = some (.cells V.cells 26 (0,0))):=by
  show _∧_;rw[HW2,hV];obtain⟨A,hA⟩:∃A,w.alloc (.cells #[.int .i64 xk,.int .i64 xn,.int .u64 xu,.string xs,.slice xa4 xn4 xc4,.slice xa5 xn5 xc5] 26)=A:=⟨_,rfl⟩;have sA:A.heap.size=w.heap.size+1:=by rw[← hA,zm]
  have gA:jC w A:=by rw[← hA];exact (jC.refl _).alloc _
  rw[hA];obtain⟨B,hB⟩:∃B,A.alloc (.cells #[.int .i64 0] 3)=B:=⟨_,rfl⟩;have sB:B.heap.size=w.heap.size+2:=by rw[← hB,zm,sA]
  have gB:jC A B:=by rw[← hB];exact (jC.refl _).alloc _
  have bB:=qc A (.cells #[.int .i64 0] 3);rw[hB,sA] at bB;rw[hB];have gD:=(jC.refl B).alloc (.cells (Value.agg #[.int .i64 xk,.int .i64 xn,.int .u64 xu,.string xs,.slice xa4 xn4 xc4,.slice xa5 xn5 xc5]).cells 26);have bD:=qc B (.cells (Value.agg #[.int .i64 xk,.int .i64 xn,.int .u64 xu,.string xs,.slice xa4 xn4 xc4,.slice xa5 xn5 xc5]).cells 26);rw[sB] at bD;exact⟨gA.trans (gB.trans gD),by rw[zm,sB],gD.heap bB,bD⟩
 refine wpIn_rangeFunc_ownH rfl zo (gf:=60) (lb:=#[.pointer (some ⟨w.heap.size+2,0,none⟩)]) rfl trivial (enters_of func60 zk rfl)
  (VE (λ_=>True) (λ_ _ _ _=>trivial) _ w w2 (w.heap.size+2) w.heap.size (w.heap.size+2) t V hn (vZ.of_grew hF.1) (zr _) (by have:=hF.2.1;omega) hF.2.2.2 hsz trivial)
  KpC.trans (λW l o o' _ h ho _=>KpC.turn W l o o' h ho) (Below.refl _ _) (λ_=>rfl)
  (λpre W=>SzI w pre.length W) (λc pre W=>False)
  (SzI.own w hF.1.size) (λc=>λ_ _ _ _ h _ _=>h.elim)
  ⟨hF.2.2.1,hF.1⟩
  (λx a' W=>a'={tmps:=#[.agg #[.int .i64 xk,.int .i64 xn,.int .u64 xu,.string xs,.slice xa4 xn4 xc4,.slice xa5 xn5 xc5],.pointer (some ⟨w.heap.size,0,none⟩),.pointer (some ⟨w.heap.size+1,0,none⟩),.agg #[.int .i64 xk,.int .i64 xn,.int .u64 xu,.string xs,.slice xa4 xn4 xc4,.slice xa5 xn5 xc5],.func (.func 60) #[] #[.pointer (some ⟨w.heap.size+2,0,none⟩)],.int .i64 x.1.1,x.1.2.1,undef,undef,undef],defers:=[]})
  ?hAx ?assign ?body ?done ?stop
 case hAx=>
  rintro x a' s A C row h hg hr;exact h
 case assign=>
  rintro l pre ⟨⟨b,v,x⟩,hx,hb⟩ W K hi hK;have HI:=zh hi;have HK:=zh hK;clear hi hK hn hV HW2;simp only[yC.encs]
  gi_wp2
  exact HK.out _ _ (VF (jC.refl W)) (KpC.of_grew (jC.refl W)) HI.out rfl
 case body=>
  rintro l pre X a' W hl _ hi rfl hlt;obtain⟨i2,i3⟩:=hi;have hwr:wrap64 ((pre.length:Int)+1)=(pre.length:Int)+1:=IntWalk.wrap64_in _ zo;have q2:=jA i2 0 _ rfl;have f2:=jE i2 0;obtain⟨W',hW'⟩:∃W',W.setCell ⟨w.heap.size+1,0,none⟩ (.int .i64 ((pre.length:Int)+1))=W':=⟨_,rfl⟩;have hm:Moved (λg=>g=w.heap.size+1) W W':=by rw[← hW'];exact Moved.setCell (S:=λg=>g=w.heap.size+1) (p:=⟨w.heap.size+1,0,none⟩) (Moved.refl _ W) (λ_=>rfl) _
  have j2:W'.heap[w.heap.size+1]? = some (.cells #[.int .i64 ((pre.length:Int)+1)] 3 (0,0)):=by rw[← hW'];have:=heap_setCell_same W (w.heap.size+1) 0 _ _ (.int .i64 ((pre.length:Int)+1)) i2;simpa using this
  have j3:jC w W':=Moved.fresh i3 hm (λg h=>by omega)
  have HKF:Hid (KeepsFrom w2.heap.size W W'∧KpC w.heap.size (w.heap.size+2) W W'):=by
   show _∧_;rw[← hW'];exact⟨KeepsOthers.from (KeepsOthers.setCell _ _ _) _,KpC.setCell _ _ zo zo _⟩
  have HJ:Hid (SzI w (pre++[X]).length W'):=by
   refine⟨?_,j3⟩;rw[j2,zb];rfl
  clear i2 i3 hm j2 j3 hl hlt hn hV HW2
  gi_wp2
  exact⟨HKF.1,HKF.2,HJ.out⟩
 case done=>
  rintro D ys W hD hys ⟨h1,h2⟩ hK
  have kE:ys.length=t.size:=by
   have:=ql List.length hys
   rwa [qb,vB] at this
  rw[kE] at h1;have c1:=jA h1 0 _ rfl;have f1:=jE h1 0;obtain⟨W',hW'⟩:∃W',W.setCell ⟨w.heap.size+1,0,none⟩ (.int .i64 t.size)=W':=⟨_,rfl⟩;have hdl:=hF.2.1;have hm:Moved (λg=>g=w.heap.size+1) W W':=by rw[← hW'];exact Moved.setCell (S:=λg=>g=w.heap.size+1) (p:=⟨w.heap.size+1,0,none⟩) (Moved.refl _ W) (λ_=>rfl) _
  have hK':=hm.heap hK zo;have hb':W'.heap[w.heap.size+1]? = some (.cells #[.int .i64 t.size] 3 (0,0)):=by rw[← hW'];have:=heap_setCell_same W (w.heap.size+1) 0 _ _ (.int .i64 t.size) h1;simpa using this
  have hg':jC w W':=Moved.fresh h2 hm (λg h=>by omega);have HB:=zh (qa hb' hg');have HKK:=zh hK';have HDL:Hid (w.heap.size+3≤D):=by show _≤_;omega
  clear h1 h2 hys hm hK hK' hb' hg' hD hdl hn hV HW2 kE
  gi_wp2
  refine⟨by simp,.inl ⟨_,_,rfl,run_takeDeferred HKK.out,?_⟩⟩;have hput:jC w (W'.putObj D (.deferred none)):=JP HB.2 (grownBy_putObj' W' D _) (λr e=>by cases e;exact zr _) zp25;have kM:=jA ((World.putObj_heap_other (by have:=HDL.out;omega:w.heap.size+1≠D)).trans HB.1:(W'.putObj D (.deferred none)).heap[w.heap.size+1]? = _) 0 _ rfl;refine⟨.int .i64 t.size,by simp[results,results30,go_sem,kM],rfl,hput⟩
 case stop=>
  rintro D c pre W' hD ⟨zs,hpre⟩ h hK;exact h.elim
def AtI (w:World) (n k:Nat) (W:World):Prop:=
 k≤n∧W.heap[w.heap.size+2]? = some (.cells #[.int .i64 0,.int .i64 0,.int .u64 0,.string ⟨#[]⟩,.slice none 0 0,.slice none 0 0] 26 (0,0))∧W.heap[w.heap.size+3]? = some (.cells #[.bool false] 4 (0,0)) ∧
  W.heap[w.heap.size+4]? = some (.cells #[.int .i64 k] 3 (0,0))∧W.heap[w.heap.size+1]? = some (.cells #[.int .i64 n] 3 (0,0))∧jC w W
def AtX (w:World) (n:Nat) (ps:List (Nat × Tr)) (W:World):Prop:=
 ∃b x c0 c1 c2 c3 c4 c5,ps[n]? = some (b,x)∧W.heap[w.heap.size+2]? = some (.cells #[c0,c1,c2,c3,c4,c5] 26 (0,0))∧W.heap[w.heap.size+3]? = some (.cells #[.bool true] 4 (0,0)) ∧
  jM W x (.agg #[c0,c1,c2,c3,c4,c5])∧jC w W
theorem LH:∀t,Few t→∀x∈t.kids,Few x:=by
 rintro ⟨k,n,u,s,keys,l⟩ h x hx;exact sH.mem h.2.2 hx
theorem sQ (B:Nat) (W:World) (g:Nat) (a b c d e f:Value):KeepsFrom B W (kW W g a b c d e f):=
 (((((KeepsOthers.from (KeepsOthers.setCell _ _ _) _).trans (KeepsOthers.from (KeepsOthers.setCell _ _ _) _)).trans (KeepsOthers.from (KeepsOthers.setCell _ _ _) _)).trans (KeepsOthers.from (KeepsOthers.setCell _ _ _) _)).trans (KeepsOthers.from (KeepsOthers.setCell _ _ _) _)).trans (KeepsOthers.from (KeepsOthers.setCell _ _ _) _)
theorem LI {n b:Nat} {x:Tr} {c0 c1 c2 c3 c4 c5:Value} (h1:ps[n]? = some (b,x)) (h2:W.heap[w.heap.size+2]? = some (.cells #[c0,c1,c2,c3,c4,c5] 26 (0,0))) (h3:W.heap[w.heap.size+3]? = some (.cells #[.bool true] 4 (0,0)))
 (h4:jM W x (.agg #[c0,c1,c2,c3,c4,c5])) (h5:jC w W):AtX w n ps W:=⟨b,x,c0,c1,c2,c3,c4,c5,h1,h2,h3,h4,h5⟩
theorem uY (hg:W.grownBy W' row) (hr:∀r,row=some r→∃o:Obj,W.heap[r]? = some o∧o.isCells=false):vZ W W':=λk o hk ho=>qC hg hr hk ho
theorem AtI.own (w:World) (n:Nat) (hB:w.heap.size≤B):OwnFrom B (λ(s:List (yC Few w)) W=>AtI w n s.length W):=by
 rintro s A C row ⟨h0,h1,h2,h3,h4,h5⟩ hg hr;have hc:=λr e=>(hr r e).2;exact⟨h0,qC hg hc h1 rfl,qC hg hc h2 rfl,qC hg hc h3 rfl,qC hg hc h4 rfl,JP h5 hg (λr e=>(hr r e).1) hB⟩
theorem AtX.own (w:World) (n:Nat) (hB:w.heap.size≤B):OwnFrom B (λ(s:List (yC Few w)) W=>AtX w n (s.map yC.key) W):=by
 rintro s A C row ⟨b,x,c0,c1,c2,c3,c4,c5,h0,h1,h2,h3,h5⟩ hg hr;have hc:=λr e=>(hr r e).2;exact⟨b,x,c0,c1,c2,c3,c4,c5,h0,qC hg hc h1 rfl,qC hg hc h2 rfl,h3.cells (uY hg hc),JP h5 hg (λr e=>(hr r e).1) hB⟩
def AtOut (w:World) (t:Tr) (n:Nat) (r:Ending) (w':World):Prop:=
 jC w w'∧((∃b x v,(vP 0 t)[n]? = some (b,x)∧r=.returned (.tuple #[v,.bool true])∧jM w' x v)∨((vP 0 t)[n]? = none∧r=.returned (.tuple #[zC,.bool false])))
theorem ZR {A:World} (hs:A.heap.size=k) (o:Obj):∃B,A.alloc o=B∧jC A B∧B.heap.size=k+1∧B.heap[k]? = some o:=by
 refine⟨_,rfl,(jC.refl _).alloc _,by rw[zm,hs],?_⟩;rw[← hs];exact qc A o
theorem at_any (t:Tr) (n:Nat) (hnn:n≤1099511627776) (v:Value) (w:World) (hn:jM w t v) (hfew:Few t) (hsz:t.size≤1099511627776) :
 Calls prog 31 #[v,.int .i64 n] w λr w'=>AtOut w t n r w':=by
 have h6:=hn.node6;refine (callsIn_wide (n:=3)).1 ?_;obtain⟨xk,xn,xu,xs,xa4,xn4,xc4,xa5,xn5,xc5,rfl⟩:=h6;refine callsIn_of_wp_marks func31 rfl trivial ?_ rfl;simp only[ntmps31,xt,zz,qg,Nat.reduceAdd,Nat.reduceSub,Array.replicate_succ,Array.replicate_zero,List.push_toArray,List.append_toArray,xm,qz];have hdd:∀q:Nat,(Fence.wide.depth.isSome=true→1≤q):=λq h=>by cases h
 gi_wp2_with (refine⟨trivial,?_⟩;refine (callsIn_wide.2 (cQ _ _ ⟨_,_,_,_,_,_,_,_,_,_,rfl⟩)).mono ?_;rintro r w2 ⟨rfl,hw2⟩;have HW2:=zh hw2;clear hw2)
 obtain⟨V,hV⟩:∃V:Value,V=.agg #[.int .i64 xk,.int .i64 xn,.int .u64 xu,.string xs,.slice xa4 xn4 xc4,.slice xa5 xn5 xc5]:=⟨_,rfl⟩;rw[← hV] at hn;have HV:=zh hV
 have hF:Hid (jC w w2∧w2.heap.size=w.heap.size+6∧w2.heap[w.heap.size+1]? = some (.cells #[.int .i64 n] 3 (0,0))∧w2.heap[w.heap.size+2]? = some (.cells #[.int .i64 0,.int .i64 0,.int .u64 0,.string ⟨#[]⟩,.slice none 0 0,.slice none 0 0] 26 (0,0))∧w2.heap[w.heap.size+3]? = some (.cells #[.bool false] 4 (0,0))∧w2.heap[w.heap.size+4]? = some (.cells #[.int .i64 0] 3 (0,0))∧w2.heap[w.heap.size+5]? = some (.cells V.cells 26 (0,0))):=by
  show _∧_;rw[HW2,hV];obtain⟨A,hA,gA,sA,bA⟩:=ZR (rfl:w.heap.size=w.heap.size) (.cells #[.int .i64 xk,.int .i64 xn,.int .u64 xu,.string xs,.slice xa4 xn4 xc4,.slice xa5 xn5 xc5] 26);rw[hA];obtain⟨B,hB,gB,sB,bB⟩:=ZR sA (.cells #[.int .i64 n] 3);rw[hB];obtain⟨C,hC,gC,sC,bC⟩:=ZR sB (.cells #[.int .i64 0,.int .i64 0,.int .u64 0,.string ⟨#[]⟩,.slice none 0 0,.slice none 0 0] 26);rw[hC];obtain⟨D,hD,gD,sD,bD⟩:=ZR sC (.cells #[.bool false] 4);rw[hD];obtain⟨E,hE,gE,sE,bE⟩:=ZR sD (.cells #[.int .i64 0] 3);rw[hE];obtain⟨G,hG,gG,sG,bG⟩:=ZR sE (.cells (Value.agg #[.int .i64 xk,.int .i64 xn,.int .u64 xu,.string xs,.slice xa4 xn4 xc4,.slice xa5 xn5 xc5]).cells 26);rw[hG];have g1:=gE.trans gG;have g2:=gD.trans g1;have g3:=gC.trans g2;exact⟨gA.trans (gB.trans g3),sG,g3.heap bB,g2.heap bC,g1.heap bD,gG.heap bE,bG⟩
 refine wpIn_rangeFunc_ownH rfl zo (gf:=60) (lb:=#[.pointer (some ⟨w.heap.size+5,0,none⟩)]) rfl trivial (enters_of func60 zk rfl)
  (VE Few LH _ w w2 (w.heap.size+5) w.heap.size (w.heap.size+5) t V hn (vZ.of_grew hF.1) (zr _) (by have:=hF.2.1;omega) hF.2.2.2.2.2.2 hsz hfew)
  KpC.trans (λW l o o' _ h ho _=>KpC.turn W l o o' h ho) (Below.refl _ _) (λ_=>rfl)
  (λpre W=>AtI w n pre.length W) (λc pre W=>c=.ret∧AtX w n (pre.map yC.key) W)
  (AtI.own w n hF.1.size) (λc=>OwnFrom.and (ownFrom_pure _ _) (AtX.own w n hF.1.size))
  ⟨Nat.zero_le _,hF.2.2.2.1,hF.2.2.2.2.1,hF.2.2.2.2.2.1,hF.2.2.1,hF.1⟩
  (λx a' W=>∃Bx,w.heap.size+5≤Bx∧W.heap[Bx]? = some (.cells x.1.2.1.cells 26 (0,0))∧a'={tmps:=#[.agg #[.int .i64 xk,.int .i64 xn,.int .u64 xu,.string xs,.slice xa4 xn4 xc4,.slice xa5 xn5 xc5],.int .i64 n,.pointer (some ⟨w.heap.size,0,none⟩),.pointer (some ⟨w.heap.size+1,0,none⟩),.pointer (some ⟨w.heap.size+2,0,none⟩),.pointer (some ⟨w.heap.size+3,0,none⟩),.pointer (some ⟨w.heap.size+4,0,none⟩),undef,.pointer (some ⟨Bx,0,none⟩),.agg #[.int .i64 xk,.int .i64 xn,.int .u64 xu,.string xs,.slice xa4 xn4 xc4,.slice xa5 xn5 xc5],.func (.func 60) #[] #[.pointer (some ⟨w.heap.size+5,0,none⟩)],.int .i64 x.1.1,x.1.2.1,undef,undef,undef,undef,undef,undef,undef,undef],defers:=[]})
  ?hAx ?assign ?body ?done ?stop
 case hAx=>
  rintro x a' s A C row ⟨Bx,h1,h2,h3⟩ hg hr;exact⟨Bx,h1,qC hg (λr e=>(hr r e).2) h2 rfl,h3⟩
 case assign=>
  rintro l pre ⟨⟨b,v,x⟩,hx,hb⟩ W K hi hK;obtain⟨yk,yn,yu,ys,ya4,yn4,yc4,ya5,yn5,yc5,rfl⟩:=hx.node6;have HI:=zh hi;have HK:=zh hK;clear hi hK hn hV HW2;simp only[yC.encs]
  gi_wp2
  refine HK.out _ _ (KeepsOthers.from (KeepsOthers.alloc _ _) _) (KpC.of_grew ((jC.refl W).alloc _)) ?_ ⟨W.heap.size,?_,qc _ _,rfl⟩
  ·exact (AtI.own w n hF.1.size).alloc _ HI.out
  have h1:=(zc.1 HI.2.2.2.1).1;omega
 case body=>
  rintro l pre X a' W hl _ hi ⟨Bx,hBx,hbx,rfl⟩ hlt;obtain⟨b,v,x,hX,hx,hb,hfx⟩:∃b v x,X.1=(b,v,x)∧jM w x v∧b≤1099511627776∧Few x:=⟨X.1.1,X.1.2.1,X.1.2.2,rfl,X.2.1,X.2.2.1,X.2.2.2⟩;have HXK:Hid (X.key=(b,x)):=by show _=_;simp[yC.key,hX]
  rw[hX] at hbx⊢;clear hX;have hxn:=hx;obtain⟨yk,yn,yu,ys,ya4,yn4,yc4,ya5,yn5,yc5,rfl⟩:=hx.node6;obtain⟨i0,i1,i2,i3,i4,i5⟩:=hi;simp only[Value.cells] at hbx;obtain⟨e0,e1,e2,e3,e4,e5⟩:=sqr6 hbx;have q4:=jA i3 0 _ rfl;have f4:=jE i3 0;have q1:=jA i4 0 _ rfl;have HJ:=zh (qa i1 (qa i2 (qa i3 (qa i4 i5))));have HBX:=zh hBx
  have hpl:(pre.map yC.key++[(b,x)])[pre.length]? = some (b,x):=by
   rw[qs (by rw[qb];exact zr _),qb,yj];rfl
  have hme:List.map yC.key (pre++[X])=pre.map yC.key++[(b,x)]:=by rw[xb,List.map_singleton,HXK]
  have HPL:=zh (qa hpl hme);by_cases hk:pre.length=n
  ·have hkb:((pre.length:Int) == (n:Int))=true:=by rw[hk];simp
   have HKN:=zh hk;have HCOPY:=zh (dN x.size x (zr _) _ W (hxn.grew i5) hfx);clear hk i0 i1 i2 i3 i4 i5 hbx hx hxn hl hlt hn hV HW2 hb hfx hpl hme hBx hnn hfew hsz
   gi_wp2_with (refine⟨trivial,?_⟩;gi_at_call 44;refine (CallsIn.inRound l (callsIn_wide.2 HCOPY.out)).mono ?_;clear HCOPY;rintro r w3 ⟨v3,rfl,ho3,hg3⟩;obtain⟨zk,zn,zu,zs,za4,zn4,zc4,za5,zn5,zc5,rfl⟩:=ho3.node6;have HO3:=zh ho3;have HG3:=zh hg3;have z0:=jA (hg3.heap HJ.1) 0 _ rfl;have z1:=jA (hg3.heap HJ.1) 1 _ rfl;have z2:=jA (hg3.heap HJ.1) 2 _ rfl;have z3:=jA (hg3.heap HJ.1) 3 _ rfl;have z4:=jA (hg3.heap HJ.1) 4 _ rfl;have z5:=jA (hg3.heap HJ.1) 5 _ rfl;have y0:=jE (hg3.heap HJ.1) 0;have y1:=jE (hg3.heap HJ.1) 1;have y2:=jE (hg3.heap HJ.1) 2;have y3:=jE (hg3.heap HJ.1) 3;have y4:=jE (hg3.heap HJ.1) 4;have y5:=jE (hg3.heap HJ.1) 5;have b0:=jA (hg3.heap HJ.2.1) 0 _ rfl;have b1:=jE (hg3.heap HJ.2.1) 0;clear ho3 hg3)
   have hm1:Moved (λg=>g=w.heap.size+2) w3 (kW w3 (w.heap.size+2) (.int .i64 zk) (.int .i64 zn) (.int .u64 zu) (.string zs) (.slice za4 zn4 zc4) (.slice za5 zn5 zc5)):=yJ w3 _ _ _ _ _ _ _;have hb1:(kW w3 (w.heap.size+2) (.int .i64 zk) (.int .i64 zn) (.int .u64 zu) (.string zs) (.slice za4 zn4 zc4) (.slice za5 zn5 zc5)).heap[w.heap.size+2]? = some (.cells #[.int .i64 zk,.int .i64 zn,.int .u64 zu,.string zs,.slice za4 zn4 zc4,.slice za5 zn5 zc5] 26 (0,0)):=Z3 (HG3.heap HJ.1) (.int .i64 zk) (.int .i64 zn) (.int .u64 zu) (.string zs) (.slice za4 zn4 zc4) (.slice za5 zn5 zc5);have hk6:=sQ w2.heap.size w3 (w.heap.size+2) (.int .i64 zk) (.int .i64 zn) (.int .u64 zu) (.string zs) (.slice za4 zn4 zc4) (.slice za5 zn5 zc5);show KeepsFrom _ W ((kW w3 (w.heap.size+2) (.int .i64 zk) (.int .i64 zn) (.int .u64 zu) (.string zs) (.slice za4 zn4 zc4) (.slice za5 zn5 zc5)).setCell ⟨w.heap.size+3,0,none⟩ (.bool true))∧_=_∧AtX w n _ ((kW w3 (w.heap.size+2) (.int .i64 zk) (.int .i64 zn) (.int .u64 zu) (.string zs) (.slice za4 zn4 zc4) (.slice za5 zn5 zc5)).setCell ⟨w.heap.size+3,0,none⟩ (.bool true));generalize kW w3 (w.heap.size+2) (.int .i64 zk) (.int .i64 zn) (.int .u64 zu) (.string zs) (.slice za4 zn4 zc4) (.slice za5 zn5 zc5)=W4 at *;have hm2:Moved (λg=>g=w.heap.size+3) W4 (W4.setCell ⟨w.heap.size+3,0,none⟩ (.bool true)):=Moved.setCell (S:=λg=>g=w.heap.size+3) (p:=⟨w.heap.size+3,0,none⟩) (Moved.refl _ _) (λ_=>rfl) _;have hWs:w.heap.size+3 < W.heap.size:=(zc.1 HJ.2.1).1
   have hb3:(W4.setCell ⟨w.heap.size+3,0,none⟩ (.bool true)).heap[w.heap.size+3]? = some (.cells #[.bool true] 4 (0,0)):=by
    have:=heap_setCell_same W4 (w.heap.size+3) 0 _ _ (.bool true) (hm1.heap (HG3.heap HJ.2.1) zo);simpa using this
   have hk7:KeepsFrom w2.heap.size W4 (W4.setCell ⟨w.heap.size+3,0,none⟩ (.bool true)):=KeepsOthers.from (KeepsOthers.setCell _ _ _) _;generalize W4.setCell ⟨w.heap.size+3,0,none⟩ (.bool true)=W5 at *;refine qa (((VF HG3.out).trans hk6).trans hk7) (qa rfl ?_);have hA1:(List.map yC.key (pre++[X]))[n]? = some (b,x):=by rw[HPL.2,← HKN.out];exact HPL.1
   have hA2:=hm2.heap hb1 zo;have hA3:jM W5 x (.agg #[.int .i64 zk,.int .i64 zn,.int .u64 zu,.string zs,.slice za4 zn4 zc4,.slice za5 zn5 zc5]):=((HO3.kept hm1 (λg h e=>by have:=h.1;omega)).kept hm2 (λg h e=>by have:=h.1;omega)).node;have hA4:jC w W5:=Moved.fresh (Moved.fresh (HJ.2.2.2.2.trans HG3.out) hm1 (λg h=>by omega)) hm2 (λg h=>by omega);exact LI hA1 hA2 hb3 hA3 hA4
  have hkb:((pre.length:Int) == (n:Int))=false:=by
   simp only[beq_eq_false_iff_ne,ne_eq];omega
  have hwr:wrap64 ((pre.length:Int)+1)=(pre.length:Int)+1:=IntWalk.wrap64_in _ zo;obtain⟨W',hW'⟩:∃W',W.setCell ⟨w.heap.size+4,0,none⟩ (.int .i64 ((pre.length:Int)+1))=W':=⟨_,rfl⟩;have hm:Moved (λg=>g=w.heap.size+4) W W':=by rw[← hW'];exact Moved.setCell (S:=λg=>g=w.heap.size+4) (p:=⟨w.heap.size+4,0,none⟩) (Moved.refl _ W) (λ_=>rfl) _
  have j2:W'.heap[w.heap.size+4]? = some (.cells #[.int .i64 ((pre.length:Int)+1)] 3 (0,0)):=by rw[← hW'];have:=heap_setCell_same W (w.heap.size+4) 0 _ _ (.int .i64 ((pre.length:Int)+1)) i3;simpa using this
  have HKF:Hid (KeepsFrom w2.heap.size W W'∧KpC w.heap.size (w.heap.size+5) W W'):=by
   show _∧_;rw[← hW'];exact⟨KeepsOthers.from (KeepsOthers.setCell _ _ _) _,KpC.setCell _ _ zo zo _⟩
  have HJ2:Hid (AtI w n (pre++[X]).length W'):=by
   refine⟨by rw[zb];simp;omega,hm.heap i1 zo,hm.heap i2 zo,?_,hm.heap i4 zo,Moved.fresh i5 hm (λg h=>by omega)⟩;rw[j2,zb];rfl
  clear hk i0 i1 i2 i3 i4 i5 hbx hx hxn hl hlt hn hV HW2 hb hfx hpl hme hm j2 hBx hnn hfew hsz
  gi_wp2
  exact⟨HKF.1,HKF.2,HJ2.out⟩
 case done=>
  rintro D ys W hD hys ⟨h0,h1,h2,h3,h4,h5⟩ hK
  have kE:ys.length=t.size:=by
   have:=ql List.length hys
   rwa [qb,vB] at this
  have HZ:Hid ((vP 0 t)[n]? = none):=by
   show _=_;rw[List.getElem?_eq_none_iff,vB];omega
  obtain⟨z0,z1,z2,z3,z4,z5⟩:=sqr6 h1;have f0:=jE h1 0;have f1:=jE h1 1;have f2:=jE h1 2;have f3:=jE h1 3;have f4:=jE h1 4;have f5:=jE h1 5;have c1:=jA h2 0 _ rfl;have y1:=jE h2 0;have hdl:=hF.2.1;have hm1:Moved (λg=>g=w.heap.size+2) W (kW W (w.heap.size+2) (.int .i64 0) (.int .i64 0) (.int .u64 0) (.string ⟨#[]⟩) (.slice none 0 0) (.slice none 0 0)):=yJ W _ _ _ _ _ _ _;have hb1:(kW W (w.heap.size+2) (.int .i64 0) (.int .i64 0) (.int .u64 0) (.string ⟨#[]⟩) (.slice none 0 0) (.slice none 0 0)).heap[w.heap.size+2]? = some (.cells #[.int .i64 0,.int .i64 0,.int .u64 0,.string ⟨#[]⟩,.slice none 0 0,.slice none 0 0] 26 (0,0)):=Z3 h1 _ _ _ _ _ _;obtain⟨W4,hW4⟩:∃W4,kW W (w.heap.size+2) (.int .i64 0) (.int .i64 0) (.int .u64 0) (.string ⟨#[]⟩) (.slice none 0 0) (.slice none 0 0)=W4:=⟨_,rfl⟩;rw[hW4] at hm1 hb1;obtain⟨W5,hW5⟩:∃W5,W4.setCell ⟨w.heap.size+3,0,none⟩ (.bool false)=W5:=⟨_,rfl⟩;have hm2:Moved (λg=>g=w.heap.size+3) W4 W5:=by rw[← hW5];exact Moved.setCell (S:=λg=>g=w.heap.size+3) (p:=⟨w.heap.size+3,0,none⟩) (Moved.refl _ _) (λ_=>rfl) _
  have hb3:W5.heap[w.heap.size+3]? = some (.cells #[.bool false] 4 (0,0)):=by
   rw[← hW5];have:=heap_setCell_same W4 (w.heap.size+3) 0 _ _ (.bool false) (hm1.heap h2 zo);simpa using this
  have hb1':=hm2.heap hb1 zo;have hK':=hm2.heap (hm1.heap hK zo) zo;have hg':jC w W5:=Moved.fresh (Moved.fresh h5 hm1 (λg h=>by omega)) hm2 (λg h=>by omega);have HB:=zh (qa hb1' (qa hb3 hg'));have HKK:=zh hK';have HDL:Hid (w.heap.size+6≤D):=by show _≤_;omega
  rw[← hW4] at hW5;have HW5:=zh hW5;clear h0 h1 h2 h3 h4 h5 hys hK hK' hb1 hb1' hb3 hg' hD hdl hn hV HW2 kE hm1 hm2 hW5 hW4 hnn hfew hsz
  gi_wp2
  have hWW:=HW5.out;simp only[kW] at hWW;rw[hWW];refine⟨by simp,.inl ⟨_,_,rfl,run_takeDeferred HKK.out,?_⟩⟩;have hput:jC w (W5.putObj D (.deferred none)):=JP HB.2.2 (grownBy_putObj' W5 D _) (λr e=>by cases e;exact zr _) zp25;have hk1:=(World.putObj_heap_other (o:=.deferred none) (by have:=HDL.out;omega:w.heap.size+2≠D)).trans HB.1;have hk2:=(World.putObj_heap_other (o:=.deferred none) (by have:=HDL.out;omega:w.heap.size+3≠D)).trans HB.2.1;have x0:=jA (hk1:(W5.putObj D (.deferred none)).heap[w.heap.size+2]? = _) 0 _ rfl;have x1:=jA (hk1:(W5.putObj D (.deferred none)).heap[w.heap.size+2]? = _) 1 _ rfl;have x2:=jA (hk1:(W5.putObj D (.deferred none)).heap[w.heap.size+2]? = _) 2 _ rfl;have x3:=jA (hk1:(W5.putObj D (.deferred none)).heap[w.heap.size+2]? = _) 3 _ rfl;have x4:=jA (hk1:(W5.putObj D (.deferred none)).heap[w.heap.size+2]? = _) 4 _ rfl;have x5:=jA (hk1:(W5.putObj D (.deferred none)).heap[w.heap.size+2]? = _) 5 _ rfl;have x6:=jA (hk2:(W5.putObj D (.deferred none)).heap[w.heap.size+3]? = _) 0 _ rfl;refine⟨.tuple #[.agg #[.int .i64 0,.int .i64 0,.int .u64 0,.string ⟨#[]⟩,.slice none 0 0,.slice none 0 0],.bool false],by simp[results,results31,go_sem,x0,x1,x2,x3,x4,x5,x6],hput,.inr ⟨HZ.out,rfl⟩⟩
 case stop=>
  rintro D c pre W' hD ⟨zs,hpre⟩ ⟨rfl,b,x,c0,c1,c2,c3,c4,c5,h1,h2,h3,h4,h5⟩ hK
  have HZ:Hid ((vP 0 t)[n]? = some (b,x)):=by
   show _=_;rw[← hpre,qy (zi.1 h1).1];exact h1
  have hdl:=hF.2.1;have HB:=zh (qa h2 (qa h3 (qa h4 h5)));have HKK:=zh hK;have HDL:Hid (w.heap.size+6≤D):=by show _≤_;omega
  obtain⟨zk,zn,zu,zs',za4,zn4,zc4,za5,zn5,zc5,ez⟩:=h4.node6;injection ez with ez;simp only[Array.mk.injEq,List.cons.injEq,and_true] at ez;obtain⟨rfl,rfl,rfl,rfl,rfl,rfl⟩:=ez;clear h1 h2 h3 h4 h5 hpre hK hD hdl hn hV HW2 hnn hfew hsz
  gi_wp2
  refine⟨by simp,.inl ⟨_,_,rfl,run_takeDeferred HKK.out,?_⟩⟩;have hput:jC w (W'.putObj D (.deferred none)):=JP HB.2.2.2 (grownBy_putObj' W' D _) (λr e=>by cases e;exact zr _) zp25;have hk1:=(World.putObj_heap_other (o:=.deferred none) (by have:=HDL.out;omega:w.heap.size+2≠D)).trans HB.1;have hk2:=(World.putObj_heap_other (o:=.deferred none) (by have:=HDL.out;omega:w.heap.size+3≠D)).trans HB.2.1;have x0:=jA (hk1:(W'.putObj D (.deferred none)).heap[w.heap.size+2]? = _) 0 _ rfl;have x1:=jA (hk1:(W'.putObj D (.deferred none)).heap[w.heap.size+2]? = _) 1 _ rfl;have x2:=jA (hk1:(W'.putObj D (.deferred none)).heap[w.heap.size+2]? = _) 2 _ rfl;have x3:=jA (hk1:(W'.putObj D (.deferred none)).heap[w.heap.size+2]? = _) 3 _ rfl;have x4:=jA (hk1:(W'.putObj D (.deferred none)).heap[w.heap.size+2]? = _) 4 _ rfl;have x5:=jA (hk1:(W'.putObj D (.deferred none)).heap[w.heap.size+2]? = _) 5 _ rfl;have x6:=jA (hk2:(W'.putObj D (.deferred none)).heap[w.heap.size+3]? = _) 0 _ rfl
  have hck:vZ W' (W'.putObj D (.deferred none)):=by
   intro k o hk ho;by_cases e:k=D
   ·subst e;rw[HKK] at hk;cases hk;cases ho
   exact (World.putObj_heap_other e).trans hk
  refine⟨.tuple #[.agg #[.int .i64 zk,.int .i64 zn,.int .u64 zu,.string zs',.slice za4 zn4 zc4,.slice za5 zn5 zc5],.bool true],by simp[results,results31,go_sem,x0,x1,x2,x3,x4,x5,x6],hput,.inl ⟨b,x,_,HZ.out,rfl,HB.2.2.1.cells hck⟩⟩
end Go.Proofs.YtdjoffgkndncfaaGreat
