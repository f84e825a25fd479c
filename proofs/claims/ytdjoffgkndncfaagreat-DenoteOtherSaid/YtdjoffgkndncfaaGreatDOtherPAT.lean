/-Texts-/
import Derived.Test.YtdjoffgkndncfaaGreatDOtherPAL
import Derived.RangeFuncNested
import Derived.RangeFuncBound
import Derived.RangeFuncCalls
import Derived.RangeFuncLeaves
import Derived.Shelf.Abstract
import Derived.Shelf.RegionOpen
import Derived.OwnWalkIn
import Derived.TacticsInMore
import Derived.LoopNIn
import Derived.LoopIn
set_option linter.unusedVariables false
set_option linter.unusedSimpArgs false
set_option maxHeartbeats 8000000
set_option maxRecDepth 100000
namespace Go.Proofs.YtdjoffgkndncfaaGreat
open Go.Proofs.Tryz
open Go Go.ChangeShapes Go.WideShapes Go.ChangeAt Go.RowKit Go.Joins Go.Deep Go.Shelf
variable {w w' a b:World} {lo hi:Nat}
attribute [local go_sem] Oper.semAt_some
def vZ (w w':World):Prop:=∀(k:Nat) (o:Obj),w.heap[k]? = some o→o.isCells=true→w'.heap[k]? = some o
theorem vZ.cell (h:vZ w w') {a:Addr} {v:Value} (hc:w.cell? a=some v):w'.cell? a=some v:=by
 have:∃o,w.heap[a.block]? = some o∧o.isCells=true:=by
  unfold World.cell? at hc
  cases ho:w.heap[a.block]? with
  | none=>simp[ho] at hc
  | some o=>exact⟨o,rfl,by cases o<;>simp_all [Obj.isCells]⟩
 obtain⟨o,ho,hi⟩:=this;rw[World.cell?_of_block (w:=w) ((h _ o ho hi).trans ho.symm)];exact hc
theorem vZ.of_grew (h:jC w w'):vZ w w':=λk o ho _=>(h.block k (zc.1 ho).1).trans ho
section
variable {w w':World} {v:Value} {vs:List Value}
theorem zB.cells {ks:List ByteArray} (h:zB w v ks) (hg:vZ w w'):zB w' v ks:=by
 obtain⟨a,c,h1,h2,h3,h4,h5⟩:=h;refine⟨a,c,h1,h2,h3,h4,λi s hs=>?_⟩;obtain⟨hz,b,off,e,hc⟩:=h5 i s hs;exact⟨hz,b,off,e,hg.cell hc⟩
theorem yO.cells {b off:Nat} (h:yO w b off v) (hg:vZ w w'):yO w' b off v:=by
 obtain⟨c0,c1,c2,c3,c4,c5,e,h0,h1,h2,h3,h4,h5⟩:=h;exact⟨c0,c1,c2,c3,c4,c5,e,hg.cell h0,hg.cell h1,hg.cell h2,hg.cell h3,hg.cell h4,hg.cell h5⟩
theorem y9.cells (h:y9 w v vs) (hg:vZ w w'):y9 w' v vs:=by
 obtain⟨a,c,h1,h2,h3,h4,h5⟩:=h;refine⟨a,c,h1,h2,h3,h4,λi x hx=>?_⟩;obtain⟨b,off,e,hc⟩:=h5 i x hx;exact⟨b,off,e,hc.cells hg⟩
mutual
theorem jM.cells (hg:vZ w w'):∀{t:Tr} {v:Value},jM w t v→jM w' t v
 | .mk k n u s keys l,v,⟨hb,kv,lv,vs,e,h1,h2,h3⟩=>⟨hb,kv,lv,vs,e,h1.cells hg,h2.cells hg,kZ.cells hg h3⟩
theorem kZ.cells (hg:vZ w w'):∀{l:List Tr} {vs:List Value},kZ w l vs→kZ w' l vs
 | [],_,h=>h
 | t::r,_,⟨v,vr,e,h1,h2⟩=>⟨v,vr,e,jM.cells hg h1,kZ.cells hg h2⟩
end
end
structure KpC (lo hi:Nat) (w w':World):Prop where
 size:w.heap.size≤w'.heap.size
 same:∀(k:Nat) (o:Obj),w.heap[k]? = some o→o.isCells=true→k < lo∨hi≤k→w'.heap[k]? = some o
theorem KpC.trans {c:World} (h:KpC lo hi a b) (k:KpC lo hi b c):KpC lo hi a c:=⟨zf h.size k.size,λi o ho hc hr=>k.same i o (h.same i o ho hc hr) hc hr⟩
theorem KpC.of_grew (h:jC a b):KpC lo hi a b:=⟨h.size,λk o ho hc _=>vZ.of_grew h k o ho hc⟩
theorem KpC.turn (W:World) (l:Nat) (o o':Obj) (h:W.heap[l]? = some o) (ho:o.isCells=false):KpC lo hi W (W.putObj l o'):=
 ⟨by simp,λk q hk hc _=>by
  by_cases e:k=l
  ·subst e;rw[h] at hk;cases hk;rw[ho] at hc;cases hc
  exact (World.putObj_heap_other e).trans hk⟩
theorem vZ.keep {w0:World} (h:vZ w0 a) (hlo:w0.heap.size≤lo) (k:KpC lo hi a b):vZ w0 b:=λi o ho hc=>k.same i o (h i o ho hc) hc (.inl (qk (zc.1 ho).1 hlo))
theorem AbidesFrom.grew {β:Type} {B:Nat} {J:β→World→Prop} (h:AbidesFrom B J) {s:β} {A C:World} (hs:J s A) (hg:jC A C):J s C:=
 h s A C none hs ⟨hg.os,hg.tape,hg.output,hg.size,λk hk _=>hg.block k hk⟩ (λr e=>by cases e)
mutual
def vP (b:Nat):Tr→List (Nat × Tr) | .mk k n u s keys l=>(b,.mk k n u s keys l)::JL (b+1) l
def JL (b:Nat):List Tr→List (Nat × Tr) | []=>[] | t::r=>vP b t++JL b r
end
theorem EV (b:Nat) (l:List Tr) (x:Tr):JL b (l++[x])=JL b l++vP b x:=by
 induction l with
 | nil=>simp[JL]
 | cons t r ih=>simp[JL,ih]
theorem uX (b:Nat) (l r:List Tr):JL b (l++r)=JL b l++JL b r:=by
 induction l with
 | nil=>simp[JL]
 | cons t q ih=>simp[JL,ih]
mutual
theorem vB (b:Nat):∀t:Tr,(vP b t).length=t.size
 | .mk k n u s keys l=>by simp only[vP,Tr.size,zz,aF (b+1) l]
theorem aF (b:Nat):∀l:List Tr,(JL b l).length=zY l
 | []=>rfl
 | t::r=>by simp only[JL,zY,zb,vB b t,aF b r]
end
theorem dX (l r:List Tr):zY (l++r)=zY l+zY r:=by
 induction l with
 | nil=>simp[zY]
 | cons t q ih=>simp only[qz,zY,ih];omega
def yC (P:Tr→Prop) (w0:World):Type:={p:Nat × Value × Tr // jM w0 p.2.2 p.2.1∧p.1≤1099511627776∧P p.2.2}
def yC.key {P:Tr→Prop} {w0:World} (x:yC P w0):Nat × Tr:=(x.1.1,x.1.2.2)
def yC.encs {P:Tr→Prop} {w0:World} (x:yC P w0):Array Value:=#[.int .i64 x.1.1,x.1.2.1]
theorem YieldAt.anyM {m m':Nat} {P:Program} {l:Nat} {args:Array Value} {W:World} {R:Ending→World→Prop} (h:YieldAt Fence.wide m P l args W R):YieldAt Fence.wide m' P l args W R:=by
 obtain⟨fn,tmps,assign,body,hy,hR⟩:=h;exact⟨fn,tmps,assign,body,hy,hR.1,λc cs _=>hR.2 c cs (room_wide _)⟩
theorem BR (P:Tr→Prop) (hP:∀t,P t→∀x∈t.kids,P x) (w0:World) (lp lo hi N:Nat) (J Jx:List (yC P w0)→World→Prop) (hlo:w0.heap.size≤lo)
 (hJ:∀s A B,J s A→jC A B→J s B)
 (hY:∀m pre (x:yC P w0) W,J pre W→pre.length < N→YieldAt Fence.wide m prog lp x.encs W λe W'=>
  (e=.returned (.bool true)∧J (pre++[x]) W'∧KpC lo hi W W')∨(e=.returned (.bool false)∧Jx (pre++[x]) W')) :
 ∀(m:Nat) (t:Tr),t.size≤m→P t→∀(n:Nat) (v:Value) (b:Nat) (pre:List (yC P w0)) (W:World),jM w0 t v→vZ w0 W→hi≤W.heap.size→J pre W→pre.length+t.size≤N→b+t.size≤1099511627776 →
  CallsIn Fence.wide n prog 61 #[v,.int .i64 b,.func (.yield lp) #[] #[]] W λe W'=>
   (e=.returned (.bool true)∧(∃ys:List (yC P w0),ys.map yC.key=vP b t∧J (pre++ys) W')∧KpC lo hi W W') ∨
   (e=.returned (.bool false)∧∃ys:List (yC P w0),ys.map yC.key <+: vP b t∧Jx (pre++ys) W'):=by
 intro m
 induction m with
 | zero=>intro t ht;have:=t.size_pos;omega
 | succ m ih=>
 intro t ht hPt nn v b pre W hn hC hhi h0 hN hb;obtain⟨x,hx1,hx2⟩:∃x:yC P w0,x.1=(b,v,t)∧x.encs=#[.int .i64 b,v]:=⟨⟨(b,v,t),hn,by have:=t.size_pos;show b≤_;omega,hPt⟩,rfl,rfl⟩;have HPK:=zh (hP t hPt);clear hP;have HX:Hid (x.key=(b,t)):=by show _=_;simp[yC.key,hx1]
 clear hx1;obtain⟨k,n,u,s,keys,l⟩:=t;simp only[jM] at hn;obtain⟨_,kv,lv,vs,rfl,hks,yU,zN⟩:=hn;have hkl:vs.length=l.length:=zN.length;obtain⟨a4,c4,rfl,_,_,_,_⟩:=hks;have HK:=zh zN;have kU:=zh yU;obtain⟨a5,c5,rfl,hx3,hc5,hx4,hx5⟩:=yU;rw[hkl] at kU hx3 hx2⊢;obtain⟨fn,tmps,assign,body,hy,hR⟩:=hY (nn - 1) pre x (W.alloc (.cells #[.int .i64 k,.int .i64 n,.int .u64 u,.string s,.slice a4 keys.length c4,.slice a5 l.length c5] 26)) (hJ _ _ _ h0 ((jC.refl W).alloc _)) (by simp only[Tr.size] at hN;omega);rw[hx2] at hy;have kE:l.length≤9223372036854775807:=by unfold kI at hc5;omega
 have HC:=zh hC;have HHI:=zh hhi;have HT:=zh ht;have HN:=zh hN;have HB:=zh hb;have H0:=zh h0;have HIH:=zh ih;have HHJ:=zh hJ;have HY:=zh hY;have HLO:=zh hlo;clear hx3 hx4 hx5 hc5 zN hC hhi ht hN hb h0 ih hJ hY hlo hkl;refine callsIn_of_wp func61 rfl trivial ?_ rfl;simp only[ntmps61,xt,zz,qg,Nat.reduceAdd,Nat.reduceSub,Array.replicate_succ,Array.replicate_zero,List.push_toArray,List.append_toArray,xm,qz];have hbx0:=qc W (.cells #[.int .i64 k,.int .i64 n,.int .u64 u,.string s,.slice a4 keys.length c4,.slice a5 l.length c5] 26);have hs0:(W.alloc (.cells #[.int .i64 k,.int .i64 n,.int .u64 u,.string s,.slice a4 keys.length c4,.slice a5 l.length c5] 26)).heap.size=W.heap.size+1:=zm _ _;have HG0:=zh ((jC.refl W).alloc (.cells #[.int .i64 k,.int .i64 n,.int .u64 u,.string s,.slice a4 keys.length c4,.slice a5 l.length c5] 26));have hR2:=hR.mono (R':=λe W2=>(e=.returned (.bool true)∧Hid (J (pre++[x]) W2∧KpC lo hi W W2)∧W2.cell? ⟨W.heap.size,5,none⟩=some (.slice a5 l.length c5))∨(e=.returned (.bool false)∧Hid (Jx (pre++[x]) W2))) (λe W2 h=>h.elim (λh=>.inl ⟨h.1,⟨h.2.1,(KpC.of_grew HG0.out).trans h.2.2⟩,jA (h.2.2.same _ _ hbx0 rfl (.inr HHI.out)) 5 _ rfl⟩) (λh=>.inr h));clear hbx0 hs0 hR;have hdd:∀q:Nat,(Fence.wide.depth.isSome=true→1≤q):=λq h=>by cases h
 gi_wp2_with (refine⟨hdd _,?_⟩;refine hR2.mono ?_;clear hR2;rintro e W2 (⟨rfl,HW2,d5⟩ | ⟨rfl,hx2⟩))
 ·-- the node has been visited
  have HCW:=zh (HC.keep HLO.out HW2.2);have HH2:Hid (hi≤W2.heap.size):=zf HHI.out HW2.2.size;clear d5 hy hx2
  gi_loopw [17] (λi wr=>∃j:Nat,j≤l.length∧i=.int .i64 j∧Hid (KpC lo hi W wr∧∃ys:List (yC P w0),ys.map yC.key=JL (b+1) (l.take j)∧J (pre++x::ys) wr)) (λi _=>l.length - (intOf i).toNat)
  case atStart=>
   refine⟨0,Nat.zero_le _,rfl,?_⟩;show _∧_;exact⟨HW2.2,[],by simp[JL],HW2.1⟩
  case round=>
   obtain⟨j,hj,rfl,HW⟩:=hrel;by_cases hlt:j < l.length
   ·obtain⟨y,hy⟩:∃y,l[j]? = some y:=⟨_,za hlt⟩;obtain⟨yv,hyv,hny⟩:=HK.get hy;have hym:y∈l:=qd hy;have htk:l.take (j+1)=l.take j++[y]:=(by rw[qo,hy];rfl);have HTK:Hid (JL (b+1) (l.take (j+1))=JL (b+1) (l.take j)++vP (b+1) y):=by show _=_;rw[htk,EV]
    have hszy:zY (l.take j)+y.size≤zY l:=by
     have h1:zY (l.take (j+1))+zY (l.drop (j+1))=zY l:=(by rw[← dX,List.take_append_drop]);rw[htk,dX] at h1;simp only[zY] at h1;omega
    have hCwr:vZ w0 wr:=HC.keep HLO.out HW.1
    obtain⟨bb,off,rfl,hc6⟩:∃bb off,a5=some ⟨bb,off,none⟩∧yO wr bb (off+j*6) yv:=by
     obtain⟨a,c,e,_,_,_,h⟩:=kU.out;injection e with e1 e2 e3;subst e1;obtain⟨bb,off,e,h6⟩:=h j yv hyv;exact⟨bb,off,e,h6.cells hCwr⟩
    obtain⟨xk,xn,xu,xs,xa4,xn4,xc4,xa5,xn5,xc5,rfl⟩:=hny.node6;obtain⟨e0,e1,e2,e3,e4,e5⟩:=hc6.get
    have hcall:Hid (∀q:Nat,CallsIn Fence.wide q prog 61 #[.agg #[.int .i64 xk,.int .i64 xn,.int .u64 xu,.string xs,.slice xa4 xn4 xc4,.slice xa5 xn5 xc5],.int .i64 ((b:Int)+1),.func (.yield lp) #[] #[]] (wr.alloc (.cells #[.int .i64 xk,.int .i64 xn,.int .u64 xu,.string xs,.slice xa4 xn4 xc4,.slice xa5 xn5 xc5] 26)) λe W'=>
     (e=.returned (.bool true)∧Hid (KpC lo hi W W'∧∃ys:List (yC P w0),ys.map yC.key=JL (b+1) (l.take (j+1))∧J (pre++x::ys) W')) ∨
     (e=.returned (.bool false)∧Hid (∃ys:List (yC P w0),ys.map yC.key <+: vP b (.mk k n u s keys l)∧Jx (pre++ys) W'))):=by
     intro q;obtain⟨hkp,ys,hys,hjs⟩:=HW.out;have hN':=HN.out;have hB':=HB.out;have hT':=HT.out;simp only[Tr.size] at hN' hB' hT';have hyl:ys.length=zY (l.take j):=(by rw[← aF (b+1),← hys,qb]);have hga:=(jC.refl wr).alloc (.cells #[.int .i64 xk,.int .i64 xn,.int .u64 xu,.string xs,.slice xa4 xn4 xc4,.slice xa5 xn5 xc5] 26);have hpos:=y.size_pos;have hsj:=JC hym;refine (HIH.out y zo (HPK.out y hym) q _ (b+1) (pre++x::ys) _ hny (hCwr.keep HLO.out (KpC.of_grew hga:KpC lo hi _ _)) (zf HHI.out (zf hkp.size hga.size)) (HHJ.out _ _ _ hjs hga) (by simp only[zb,zz];omega) zo).mono ?_;rintro e W' (⟨rfl,⟨zs,hzs,hjz⟩,hk'⟩|⟨rfl,zs,hzs,hjz⟩)
     ·refine .inl ⟨rfl,(hkp.trans (KpC.of_grew hga)).trans hk',ys++zs,?_,?_⟩
      ·rw[xb,hys,hzs,HTK]
      simpa [qe] using hjz
     refine .inr ⟨rfl,x::(ys++zs),?_,?_⟩
     ·rw[List.map_cons,HX,xb,hys];simp only[vP]
      refine List.prefix_cons_inj _ |>.2 ?_
      have h1:JL (b+1) l=JL (b+1) (l.take j)++(vP (b+1) y++JL (b+1) (l.drop (j+1))):=by
       rw[← qe,← HTK.out,← uX,List.take_append_drop]
      rw[h1];exact (List.prefix_append_right_inj _).2 (hzs.trans (List.prefix_append _ _))
     simpa [qe] using hjz
    have hlti:(j:Int) < l.length:=by omega
    have hwb:Hid (wrap64 ((b:Int)+1)=(b:Int)+1):=by
     have hB':=HB.out;simp only[Tr.size] at hB';exact IntWalk.wrap64_in _ zo
    clear hc6 hy hyv hny hym htk hszy hCwr
    gi_wp2_with (refine⟨trivial,hdd _,?_⟩;rw[hwb];refine (hcall.out _).mono ?_;clear hcall;rintro e W3 (⟨rfl,HW3⟩ | ⟨rfl,HX3⟩))
    ·go_roundw
     case rel=>exact⟨j+1,by omega,by go_num,HW3⟩
     case measure=>simp[intOf];omega
    gi_wp2
    go_ret;exact .inr ⟨rfl,HX3.out⟩
   have ej:j=l.length:=(by omega);subst ej
   gi_wp2
   go_ret;obtain⟨hkp,ys,hys,hjs⟩:=HW.out;rw[qn] at hys;exact .inl ⟨rfl,⟨x::ys,by rw[List.map_cons,HX,hys];simp only[vP],hjs⟩,hkp⟩
 gi_wp2
 go_ret;exact .inr ⟨rfl,[x],by simp[HX.out,vP],hx2⟩
theorem cQ (v:Value) (w:World) (hv:QV v):Calls prog 35 #[v] w λr w'=>r=.returned (.func (.func 60) #[] #[.pointer (some ⟨w.heap.size,0,none⟩)])∧w'=w.alloc (.cells v.cells 26):=by
 obtain⟨xk,xn,xu,xs,xa4,xn4,xc4,xa5,xn5,xc5,rfl⟩:=hv;go_enter func35,ntmps35;go_wp2;go_ret;exact⟨rfl,rfl⟩
theorem VE (P:Tr→Prop) (hP:∀t,P t→∀x∈t.kids,P x) (n:Nat) (w0 w1:World) (Bt lo hi:Nat) (t:Tr) (v:Value) (hn:jM w0 t v) (hC:vZ w0 w1) (hlo:w0.heap.size≤lo) (hhi:hi≤w1.heap.size) (hBt:w1.heap[Bt]? = some (.cells v.cells 26 (0,0))) (hsz:t.size≤1099511627776) (hPt:P t) :
 SeqStopsK Fence.wide n prog 60 #[.pointer (some ⟨Bt,0,none⟩)] (yC.encs (P:=P) (w0:=w0)) (KpC lo hi) (λys=>ys.map yC.key=vP 0 t) (λpre=>pre.map yC.key <+: vP 0 t) t.size w1:=by
 intro lp J Jx W hW hJ hJx hY h0;have hG:jC w1 W:=hW;have hbt:=hG.heap hBt;have hwk:=zh (BR P hP w0 lp lo hi t.size J Jx hlo (λs A B h hg=>AbidesFrom.grew hJ h hg) (λm pre x W hj hl=>YieldAt.anyM (hY pre x W hj hl)) t.size t (zr _) hPt (n - 1) v 0 [] W hn (hC.keep hlo (KpC.of_grew hG:KpC lo hi _ _)) (zf hhi hG.size) h0 zp2 zo);obtain⟨xk,xn,xu,xs,xa4,xn4,xc4,xa5,xn5,xc5,rfl⟩:=hn.node6;simp only[Value.cells] at hbt;obtain⟨d0,d1,d2,d3,d4,d5⟩:=sqr6 hbt;have hdd:∀q:Nat,(Fence.wide.depth.isSome=true→1≤q):=λq h=>by cases h
 clear hn hC hlo hhi hBt hW hJ hJx hY h0 hG hbt hsz;refine callsIn_of_wp func60 rfl trivial ?_ rfl;simp only[ntmps60,xt,zz,qg,Nat.reduceAdd,Nat.reduceSub,Array.replicate_succ,Array.replicate_zero,List.push_toArray,List.append_toArray,xm,qz]
 gi_wp2_with (refine⟨trivial,hdd _,?_⟩;refine hwk.mono ?_;clear hwk;rintro e W1 (⟨rfl,⟨ys,hys,hj⟩,hk⟩ | ⟨rfl,ys,hys,hj⟩))
 ·go_end0;exact⟨⟨_,rfl⟩,.inl ⟨ys,hys,by simpa using hj⟩⟩
 go_end0;exact⟨⟨_,rfl⟩,.inr ⟨ys,hys,by simpa using hj⟩⟩
end Go.Proofs.YtdjoffgkndncfaaGreat
