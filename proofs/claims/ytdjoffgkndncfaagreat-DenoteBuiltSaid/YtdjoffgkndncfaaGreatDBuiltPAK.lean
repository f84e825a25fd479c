/-
  Texts of the proof.
-/
import Derived.Test.YtdjoffgkndncfaaGreatDBuiltPAF
import Derived.Test.YtdjoffgkndncfaaGreatDBuiltPAD
set_option linter.unusedVariables false
set_option linter.unusedSimpArgs false
set_option maxHeartbeats 16000000
set_option maxRecDepth 100000
namespace Go.Proofs.YtdjoffgkndncfaaGreat
open Go.Proofs.Tryz
open Go Go.ChangeShapes Go.WideShapes Go.ChangeAt Go.RowKit Go.Joins Go.Deep
theorem jA {w:World} {p:Nat} {cs:Array Value} {t:TypeId} (h:w.heap[p]? = some (.cells cs t (0,0))) (k:Nat) (v:Value) (hv:cs[k]? = some v):w.cell? ⟨p,k,none⟩=some v:=by
 rw[cell_of_row w p k _ _ _ h];exact hv
def zF:Value:=.agg #[.int .i64 0,.int .i64 0,.int .u64 0,.string ⟨#[]⟩,.slice none 0 0,.slice none 0 0]
def vM:Value→List Value
 | .agg cs=>cs.toList
 | _=>[]
def VE (v:Value):Prop:=∃(k n u:Int) (s:ByteArray) (a4:Option Addr) (n4 c4:Nat) (a5:Option Addr) (n5 c5:Nat),v=.agg #[.int .i64 k,.int .i64 n,.int .u64 u,.string s,.slice a4 n4 c4,.slice a5 n5 c5]
theorem Tryz.infoNode:(Tryz.prog.info? 26).map (fun i=>(i.zero,i.size,i.bytes))=some (some zF,6,88):=by kernel_rfl
theorem iA:∃i0,Tryz.prog.info? 26=some i0∧i0.zero=some zF∧i0.size=6∧i0.bytes=88:=by
 have h:=Tryz.infoNode
 cases hq:Tryz.prog.info? 26 with
 | none=>simp[hq] at h
 | some i=>simp[hq] at h;exact⟨i,rfl,h.1,h.2.1,h.2.2⟩
theorem Tryz.infoStr:(Tryz.prog.info? 9).map (fun i=>(i.zero,i.size,i.bytes))=some (some (.string ⟨#[]⟩),1,16):=by kernel_rfl
theorem dX:∃i0,Tryz.prog.info? 9=some i0∧i0.zero=some (.string ⟨#[]⟩)∧i0.size=1∧i0.bytes=16:=by
 have h:=Tryz.infoStr
 cases hq:Tryz.prog.info? 9 with
 | none=>simp[hq] at h
 | some i=>simp[hq] at h;exact⟨i,rfl,h.1,h.2.1,h.2.2⟩
theorem bG {v:Value} (h:VE v):(vM v).length=6:=by
 obtain⟨k,n,u,s,a4,n4,c4,a5,n5,c5,rfl⟩:=h;rfl
theorem xK {v:Value} (h:VE v):∀u∈vM v,u.oneCell'=true:=by
 obtain⟨k,n,u,s,a4,n4,c4,a5,n5,c5,rfl⟩:=h;intro x hx;simp only[vM,List.mem_cons,List.not_mem_nil,or_false] at hx;rcases hx with rfl|rfl|rfl|rfl|rfl|rfl<;>rfl
theorem jX {w:World} {B:Nat} {e:TypeId} {size:Nat} {v:Value} {n:Nat} {xs:List Value} (h:w.ownsRow B e size v n xs):∃a c,v=.slice a n c∧n≤c∧kN c∧(a=none→c=0):=by
 rcases h.2 with ⟨rfl,hn⟩|⟨g,cap,cur,rfl,_,_,hn,hm,_⟩
 ·exact⟨none,0,by rw[hn],by omega,by unfold kN;omega,fun _=>rfl⟩
 ·exact⟨_,cap,rfl,hn,by unfold maxLen at hm;exact hm,(fun h=>by cases h)⟩
theorem JV {w:World} {B B':Nat} {e:TypeId} {size:Nat} {v:Value} {n:Nat} {xs:List Value} (h:w.ownsRow B e size v n xs) (hb:B'≤B):w.ownsRow B' e size v n xs:=by
 obtain⟨h1,h2⟩:=h;refine⟨h1,?_⟩;rcases h2 with h2|⟨g,cap,cur,hv,hg,r⟩
 ·exact .inl h2
 ·exact .inr ⟨g,cap,cur,hv,by omega,r⟩
theorem yA {w w':World} {B:Nat} {e:TypeId} {size:Nat} {v:Value} {n:Nat} {xs:List Value} (h:w.ownsRow B e size v n xs) (hg:jD w w'):w'.ownsRow B e size v n xs:=Moved.owns (Moved.of_grew (S:=fun _=>False) hg) h (fun _ _ h=>h)
def qD (w:World) (B:Nat) (v:Value) (vs:List Value):Prop:=w.ownsRow B 26 6 v vs.length (vs.flatMap vM)∧∀x∈vs,VE x
def zV (w:World) (B:Nat) (v:Value) (ss:List ByteArray):Prop:=w.ownsRow B 9 1 v ss.length (ss.map Value.string)
theorem qD.nil (w:World) (B:Nat):qD w B (.slice none 0 0) []:=⟨World.ownsRow_nil _ _ _ _,by simp⟩
theorem zV.nil (w:World) (B:Nat):zV w B (.slice none 0 0) []:=World.ownsRow_nil _ _ _ _
theorem qD.grew {w w':World} {B:Nat} {v:Value} {vs:List Value} (h:qD w B v vs) (hg:jD w w'):qD w' B v vs:=⟨yA h.1 hg,h.2⟩
theorem zV.grew {w w':World} {B:Nat} {v:Value} {ss:List ByteArray} (h:zV w B v ss) (hg:jD w w'):zV w' B v ss:=yA h hg
theorem pP (g j:Nat):(⟨g,0,none⟩:Addr).add j=⟨g,0+j,none⟩:=QU _ g 0 j rfl
theorem zV.strs {w:World} {B:Nat} {v:Value} {ss:List ByteArray} (h:zV w B v ss) (hz:∀s∈ss,kN s.size):zP w v ss:=by
 obtain⟨a,c,rfl,h1,h2,h3⟩:=jX h;refine⟨a,c,rfl,h1,h2,h3,fun i s hs=>⟨hz s (List.mem_of_getElem? hs),?_⟩⟩;rcases h.2 with ⟨e,hn⟩|⟨g,cap,cur,e,_⟩
 ·have:ss=[]:=List.length_eq_zero_iff.1 hn;subst this;simp at hs
 ·cases e;have:=World.ownsRow.cells h (g:=g) rfl i (.string s) (by simp[hs]);rw[pP] at this;exact⟨g,0,rfl,this⟩
theorem ZA {vs:List Value} (h6:∀x∈vs,VE x) {i:Nat} {x:Value} (hx:vs[i]? = some x) (j:Nat) (hj:j < 6):(vs.flatMap vM)[i*6+j]? = (vM x)[j]? := by
 induction vs generalizing i with
 | nil=>simp at hx
 | cons y r ih=>
  have hy:=bG (h6 y zp2);rw[List.flatMap_cons]
  cases i with
  | zero=>
   simp at hx;subst hx;rw[List.getElem?_append_left zo];simp
  | succ i=>
   rw[List.getElem?_append_right zo,hy,show (i+1)*6+j - 6=i*6+j by omega];exact ih (fun x hx=>h6 x (by simp[hx])) dP
theorem qD.rows {w:World} {B:Nat} {v:Value} {vs:List Value} (h:qD w B v vs):vL w v vs:=by
 obtain⟨hr,h6⟩:=h;obtain⟨a,c,rfl,h1,h2,h3⟩:=jX hr;refine⟨a,c,rfl,h1,h2,h3,fun i x hx=>?_⟩;rcases hr.2 with ⟨e,hn⟩|⟨g,cap,cur,e,_⟩
 ·have:vs=[]:=List.length_eq_zero_iff.1 hn;subst this;simp at hx
 ·cases e;have hc:=World.ownsRow.cells hr (g:=g) rfl;have hf:=ZA h6 hx;obtain⟨k,n,u,s,a4,n4,c4,a5,n5,c5,rfl⟩:=h6 x (List.mem_of_getElem? hx);have q:=fun j hj u (hu:(vM _)[j]? = some u)=>hc (i*6+j) u ((hf j hj).trans hu);have q0:=q 0 zo _ rfl;have q1:=q 1 zo _ rfl;have q2:=q 2 zo _ rfl;have q3:=q 3 zo _ rfl;have q4:=q 4 zo _ rfl;have q5:=q 5 zo _ rfl;rw[pP] at q0 q1 q2 q3 q4 q5;exact⟨g,0,rfl,_,_,_,_,_,_,rfl,q0,by simpa [Nat.add_assoc] using q1,by simpa [Nat.add_assoc] using q2,by simpa [Nat.add_assoc] using q3,by simpa [Nat.add_assoc] using q4,by simpa [Nat.add_assoc] using q5⟩
def rowN (v:Value):Obj:=.cells (vM v).toArray 26 (0,0)
theorem KQ {ops:Array Oper} {rest:List Oper} {o:Oper} {a:Act} {w:World} {Q:Exit→Act→World→Prop} (hgd:o.guard=none) (s x:Operand)
 (ho:o.op=.call {callee:=.builtin .append,args:=#[s,x],argTypes:=#[24,24]}) (B:Nat) (v:Value) (vs:List Value) (hs:a.eval s=v) (j8:qD w B v vs)
 (g c:Nat) (y:Value) (hx:a.eval x=.slice (some ⟨g,0,none⟩) 1 c) (hg:w.heap[g]? = some (rowN y)) (h6:VE y) (kI:vs.length+1≤1048576) (hB:B≤w.heap.size)
 (h:∀v' w',qD w' B v' (vs++[y])→w.grownBy w' v.ownBlock→yV w v.ownBlock v'.ownBlock→wpList prog ops Q rest (a.put o.dst v') w'):wpList prog ops Q (o::rest) a w:=by
 obtain⟨i0,hi,hz0,hz1,hz2⟩:=iA
 have hnews:∀j u,(vM y)[j]? = some u→w.cell? ((⟨g,0,none⟩:Addr).add j)=some u:=by
  intro j u hj;rw[pP,cell_of_row w g (0+j) _ _ _ hg];simpa using hj
 obtain⟨v',w',hr,h2,h3,h4⟩:=vN (P:=prog) w B 24 o.type 26 i0 zF 6 88 underlying24 hi hz0 hz1 hz2 rfl zd v vs.length _ j8.1 ⟨g,0,none⟩ 1 c (vM y) (by rw[bG h6]) hnews (xK h6) gM zo hB;refine wpList_plain hgd fun _ hK=>Lib.wp_append_run w s x 24 24 ho v _ hs hx v' w' hr (hK _ _ (h v' w' ⟨?_,?_⟩ h3 h4))
 ·rw[List.length_append,List.flatMap_append];simpa using h2
 ·intro x hx;rcases List.mem_append.1 hx with hx|hx
  ·exact j8.2 x hx
  ·simp at hx;subst hx;exact h6
theorem KR {ops:Array Oper} {rest:List Oper} {o:Oper} {a:Act} {w:World} {Q:Exit→Act→World→Prop} (hgd:o.guard=none) (s x:Operand)
 (ho:o.op=.call {callee:=.builtin .append,args:=#[s,x],argTypes:=#[23,23]}) (B:Nat) (v:Value) (ss:List ByteArray) (hs:a.eval s=v) (j8:zV w B v ss)
 (sv:Value) (l2:List ByteArray) (hx:a.eval x=sv) (hsv:zP w sv l2) (kI:ss.length+l2.length≤1099511627776) (hB:B≤w.heap.size)
 (h:∀v' w',zV w' B v' (ss++l2)→w.grownBy w' v.ownBlock→yV w v.ownBlock v'.ownBlock→wpList prog ops Q rest (a.put o.dst v') w'):wpList prog ops Q (o::rest) a w:=by
 obtain⟨i0,hi,hz0,hz1,hz2⟩:=dX;obtain⟨sa,cap,rfl,_,_,zQ,hc⟩:=hsv
 cases sa with
 | none=>
  have h0:l2=[]:=by
   cases l2 with
   | nil=>rfl
   | cons y r=>obtain⟨_,b,off,e,_⟩:=hc 0 y rfl;cases e
  subst h0;have:=zQ rfl;subst this;refine wpList_append_own_none hgd s x 23 ho B 9 i0 1 underlying23 hi v ss.length _ hs j8 hx ?_;exact h v w zp25 ⟨rfl,rfl,rfl,Nat.le_refl _,fun _ _ _=>rfl⟩ (yV.refl _ _)
 | some ad=>
  have hnews:∀j u,(l2.map Value.string)[j]? = some u→w.cell? (ad.add j)=some u:=by
   intro j u hj;rw[List.getElem?_map] at hj
   cases hq:l2[j]? with
   | none=>rw[hq] at hj;cases hj
   | some s=>
    rw[hq] at hj;obtain⟨_,b,off,e,kL⟩:=hc j s hq;cases e;simp at hj;subst hj;rw[QU _ b off j rfl];exact kL
  obtain⟨v',w',hr,h2,h3,h4⟩:=vN (P:=prog) w B 23 o.type 9 i0 (.string ⟨#[]⟩) 1 16 underlying23 hi hz0 hz1 hz2 rfl zd v ss.length _ j8 ad l2.length cap (l2.map Value.string) zp2 hnews (by intro u hu;obtain⟨s,_,rfl⟩:=List.mem_map.1 hu;rfl) gM zo hB;refine wpList_plain hgd fun _ hK=>Lib.wp_append_run w s x 23 23 ho v _ hs hx v' w' hr (hK _ _ (h v' w' ?_ h3 h4));unfold zV;rw[List.length_append,List.map_append];exact h2
theorem sT {w wr w':World} {e:TypeId} {size:Nat} {v:Value} {n:Nat} {xs:List Value} (h:wr.ownsRow w.heap.size e size v n xs) (hg:jD w wr) (hgr:wr.grownBy w' v.ownBlock):jD w w':=by
 have hgr2:Moved (fun k=>some k=v.ownBlock) wr w':=Moved.of_grown hgr;refine⟨hgr2.os.trans hg.os,hgr2.tape.trans hg.tape,hgr2.output.trans hg.output,Nat.le_trans hg.size hgr2.size,fun k hk=>?_⟩;refine (hgr2.block k (Nat.lt_of_lt_of_le hk hg.size) fun e=>?_).trans (hg.block k hk);rcases h.2 with ⟨rfl,hn⟩|⟨g,cap,cur,rfl,hb,_,_⟩
 ·cases e
 ·have:k=g:=by injection e
  omega
theorem iB (w:World) (s:ByteArray) (hs:kN s.size):zP (w.alloc (.cells #[.string s] 9)) (.slice (some ⟨w.heap.size,0,none⟩) 1 1) [s]:=by
 have h:=heap_alloc_new w (.cells #[.string s] 9);refine⟨_,1,rfl,by simp,by unfold kN;omega,(fun h=>by cases h),fun i y hy=>?_⟩;have hi:i=0:=by have:=(List.getElem?_eq_some_iff.1 hy).1;simp at this;omega
 subst hi;simp at hy;subst hy;exact⟨hs,_,_,rfl,jA h 0 _ rfl⟩
/-! ### strings -/
def JB (s:ByteArray) (m:Nat):ByteArray:=s.extract 0 (min s.size m)
theorem ZQ (s:ByteArray) (m:Nat):(JB s m).size=min s.size m:=by simp[JB]
theorem min_nat (a b:Nat):min (a:Int) (b:Int)=((min a b:Nat):Int):=by omega
theorem iC (w:World) (s:ByteArray) (m:Nat) (hs:kN s.size) (hm:m≤1000) :
 Calls prog 113 #[.string s,.int .i64 m] w fun r w'=>r=.returned (.string (JB s m))∧w=w':=by
 unfold kN at hs;have h1:min (s.size:Int) (m:Int)=((min s.size m:Nat):Int):=min_nat _ _;obtain⟨k,hk⟩:∃k:Nat,min s.size m=k:=⟨_,rfl⟩;rw[hk] at h1;have hks:k≤s.size:=by omega
 have hki:(k:Int)≤s.size:=by omega
 have HK:=zh hk;clear hk;go_enter func113,ntmps113;go_wp2
 ·go_ret;exact⟨by rw[JB,HK.out,show m=k by have:=HK.out;omega];rfl,rfl⟩
 ·go_ret;exact⟨by rw[JB,HK.out,show k=s.size by have:=HK.out;omega];simp,rfl⟩
mutual
def qJ (w:World) (B:Nat):Tr→Value→(Nat→Prop)→Prop
 | .mk k n u s keys l,v,S=>(zO k∧zO n∧J4 u∧kN s.size∧∀x∈keys,kN x.size)∧∃kv lv vs S',v=.agg #[.int .i64 k,.int .i64 n,.int .u64 u,.string s,kv,lv] ∧
  zV w B kv keys∧qD w B lv vs ∧
  (∀g,kv.ownBlock=some g→S g∧¬S' g)∧(∀g,lv.ownBlock=some g→S g∧¬S' g)∧(∀g,kv.ownBlock=some g→lv.ownBlock≠some g)∧(∀g,S' g→S g)∧zE w B l vs S'
def zE (w:World) (B:Nat):List Tr→List Value→(Nat→Prop)→Prop
 | [],vs,_=>vs=[]
 | t::r,vs,S=>∃v vr S1 S2,vs=v::vr∧(∀g,S1 g→S g)∧(∀g,S2 g→S g)∧(∀g,S1 g→¬S2 g)∧qJ w B t v S1∧zE w B r vr S2
end
mutual
theorem qJ.kept {w w':World} {B:Nat} {R:Nat→Prop} (hm:Moved R w w'):∀{t:Tr} {v:Value} {S:Nat→Prop},qJ w B t v S→(∀g,S g→¬R g)→qJ w' B t v S
 | .mk k n u s keys l,v,S,⟨hb,kv,lv,vs,S',e,h1,h2,h3,h4,h5,h6,h7⟩,hd=>
  ⟨hb,kv,lv,vs,S',e,Moved.owns hm h1 (fun g hg=>hd g (h3 g hg).1),⟨Moved.owns hm h2.1 (fun g hg=>hd g (h4 g hg).1),h2.2⟩,h3,h4,h5,h6,zE.kept hm h7 (fun g hg=>hd g (h6 g hg))⟩
theorem zE.kept {w w':World} {B:Nat} {R:Nat→Prop} (hm:Moved R w w'):∀{l:List Tr} {vs:List Value} {S:Nat→Prop},zE w B l vs S→(∀g,S g→¬R g)→zE w' B l vs S
 | [],_,_,h,_=>h
 | t::r,_,S,⟨v,vr,S1,S2,e,h1,h2,h3,h4,h5⟩,hd=>⟨v,vr,S1,S2,e,h1,h2,h3,qJ.kept hm h4 (fun g hg=>hd g (h1 g hg)),zE.kept hm h5 (fun g hg=>hd g (h2 g hg))⟩
end
section
variable {w w':World} {B:Nat} {v:Value} {vs:List Value} {t:Tr} {l:List Tr} {S T:Nat→Prop}
theorem qJ.grew (h:qJ w B t v S) (hg:jD w w'):qJ w' B t v S:=h.kept (Moved.of_grew (S:=fun _=>False) hg) (fun _ _ h=>h)
theorem zE.grew (h:zE w B l vs S) (hg:jD w w'):zE w' B l vs S:=h.kept (Moved.of_grew (S:=fun _=>False) hg) (fun _ _ h=>h)
theorem qJ.mono (h:qJ w B t v S) (hS:∀g,S g→T g):qJ w B t v T:=by
 cases t;simp only[qJ] at h⊢;obtain⟨hb,kv,lv,vs,S',e,h1,h2,h3,h4,h5,h6,h7⟩:=h;exact⟨hb,kv,lv,vs,S',e,h1,h2,fun g hg=>⟨hS g (h3 g hg).1,(h3 g hg).2⟩,fun g hg=>⟨hS g (h4 g hg).1,(h4 g hg).2⟩,h5,fun g hg=>hS g (h6 g hg),h7⟩
theorem zE.mono (h:zE w B l vs S) (hS:∀g,S g→T g):zE w B l vs T:=by
 cases l with
 | nil=>exact h
 | cons t r=>
  simp only[zE] at h⊢;obtain⟨v,vr,S1,S2,e,h1,h2,h3,h4,h5⟩:=h;exact⟨v,vr,S1,S2,e,fun g hg=>hS g (h1 g hg),fun g hg=>hS g (h2 g hg),h3,h4,h5⟩
theorem qJ.node6 (h:qJ w B t v S):VE v:=by
 cases t;simp only[qJ] at h;obtain⟨_,kv,lv,vs,S',rfl,h1,h2,_⟩:=h;obtain⟨a4,c4,rfl,_⟩:=jX h1;obtain⟨a5,c5,rfl,_⟩:=jX h2.1;exact⟨_,_,_,_,_,_,_,_,_,_,rfl⟩
mutual
theorem qJ.node {w:World} {B:Nat}:∀{t:Tr} {v:Value} {S:Nat→Prop},qJ w B t v S→jM w t v
 | .mk k n u s keys l,v,S,⟨hb,kv,lv,vs,S',e,h1,h2,_,_,_,_,h7⟩=>⟨⟨hb.1,hb.2.1,hb.2.2.1,hb.2.2.2.1⟩,kv,lv,vs,e,h1.strs hb.2.2.2.2,h2.rows,zE.kids h7⟩
theorem zE.kids {w:World} {B:Nat}:∀{l:List Tr} {vs:List Value} {S:Nat→Prop},zE w B l vs S→yH w l vs
 | [],_,_,h=>h
 | t::r,_,S,⟨v,vr,S1,S2,e,_,_,_,h4,h5⟩=>⟨v,vr,e,qJ.node h4,zE.kids h5⟩
end
theorem zE.length (h:zE w B l vs S):vs.length=l.length:=h.kids.length
theorem zE.app {l2:List Tr} {vs2:List Value} (h:zE w B l vs S) (h2:zE w B l2 vs2 T) (hd:∀g,S g→¬T g):zE w B (l++l2) (vs++vs2) (fun g=>S g∨T g):=by
 induction l generalizing vs S with
 | nil=>simp only[zE] at h;subst h;exact h2.mono (fun g=>.inr)
 | cons t r ih=>
  simp only[zE] at h;obtain⟨v,vr,S1,S2,rfl,h1,h2',h3,h4,h5⟩:=h;simp only[List.cons_append,zE];exact⟨v,vr++vs2,S1,fun g=>S2 g∨T g,rfl,fun g hg=>.inl (h1 g hg),fun g hg=>hg.imp (h2' g) id,fun g hg hh=>hh.elim (h3 g hg) (hd g (h1 g hg)),h4,ih h5 (fun g hg=>hd g (h2' g hg))⟩
theorem zE.one (h:qJ w B t v S):zE w B [t] [v] S:=by
 simp only[zE];exact⟨v,[],S,fun _=>False,rfl,fun _ h=>h,fun _ h=>h.elim,fun _ _ h=>h,h,rfl⟩
end
def JP (w w':World) (g:Nat):Prop:=w.heap.size≤g∧g < w'.heap.size
mutual
theorem qJ.base {w:World} {B B':Nat} (hb:B'≤B):∀{t:Tr} {v:Value} {S:Nat→Prop},qJ w B t v S→qJ w B' t v S
 | .mk k n u s keys l,v,S,⟨hb0,kv,lv,vs,S',e,h1,h2,h3,h4,h5,h6,h7⟩=>⟨hb0,kv,lv,vs,S',e,JV h1 hb,⟨JV h2.1 hb,h2.2⟩,h3,h4,h5,h6,zE.base hb h7⟩
theorem zE.base {w:World} {B B':Nat} (hb:B'≤B):∀{l:List Tr} {vs:List Value} {S:Nat→Prop},zE w B l vs S→zE w B' l vs S
 | [],_,_,h=>h
 | t::r,_,S,⟨v,vr,S1,S2,e,h1,h2,h3,h4,h5⟩=>⟨v,vr,S1,S2,e,h1,h2,h3,qJ.base hb h4,zE.base hb h5⟩
end
/-! ### lists of strings -/
def yW (l:List ByteArray) (many jZ:Nat):List ByteArray:=(l.take many).map (JB · jZ)
theorem sU {l:List ByteArray} {k:Nat} {s:ByteArray} (h:l[k]? = some s) {many:Nat} (hk:k < many) (jZ:Nat):yW (l.take k) many jZ++[JB s jZ]=yW (l.take (k+1)) many jZ:=by
 obtain⟨hl,hs⟩:=List.getElem?_eq_some_iff.1 h;unfold yW;rw[List.take_take,List.take_take,Nat.min_eq_right (by omega:k≤many),Nat.min_eq_right (by omega:k+1≤many),List.take_succ_eq_append_getElem hl,List.map_append,hs];rfl
theorem xL (l:List ByteArray) (many jZ:Nat):yW (l.take many) many jZ=yW l many jZ:=by simp[yW,List.take_take]
theorem mH (l:List ByteArray) (many jZ:Nat):(yW l many jZ).length=min many l.length:=by simp[yW]
theorem CQ (many jZ:Nat) (v:Value) (l:List ByteArray) (w:World) (h:zP w v l) (hm:many≤1000) (hlg:jZ≤1000) :
 Calls prog 114 #[v,.int .i64 many,.int .i64 jZ] w fun r w'=>∃v',r=.returned v'∧zV w' w.heap.size v' (yW l many jZ)∧jD w w':=by
 obtain⟨ad,c,rfl,hlc,hcm,_,kL⟩:=h;have HC:=zh kL;have hl:l.length≤9223372036854775807:=by unfold kN at hcm;omega
 clear kL hcm;go_enter func114,ntmps114;go_wp2_with fail
 go_loopw [7,8] (fun v i wr=>∃k:Nat,k≤l.length∧k≤many∧i=.int .i64 k∧Hid (zV wr w.heap.size v (yW (l.take k) many jZ)∧jD w wr)) (fun _ i _=>l.length - (intOf i).toNat)
 case atStart=>exact⟨0,Nat.zero_le _,by omega,rfl,by
  show _∧_
  exact⟨by simpa [yW] using zV.nil _ _,jD.refl _⟩⟩
 case round=>
  obtain⟨k,hk,hk2,rfl,HW⟩:=hrel;by_cases hlt:k < l.length
  ·by_cases h3:k < many
   ·obtain⟨x,hx⟩:∃x,l[k]? = some x:=⟨_,List.getElem?_eq_getElem hlt⟩;have HSN:=zh (sU hx h3 jZ);obtain⟨hz,b,off,rfl,c0⟩:=HC.out k x hx;have HZ:=zh hz;clear hx hz;have d0:=HW.out.2.cell c0;clear c0;have h3i:(k:Int) < many:=(by omega);go_wp2_with fail;refine (iC wr x jZ HZ.out hlg).mono ?_;rintro r w2 ⟨rfl,rfl⟩;have HO:=zh HW.out.1;have HG:=zh HW.out.2;obtain⟨va,vc,rfl,_,_,_⟩:=jX HO.out;have HLN:Hid ((yW (l.take k) many jZ).length≤1000):=(by show _≤_;rw[mH];omega);have hzs:Hid (kN (JB x jZ).size):=(by show kN _;have:=HZ.out;unfold kN at *;rw[ZQ];omega);generalize yW (l.take k) many jZ=L at *;generalize JB x jZ=X at *;clear HW;have HO2:Hid (∀o,zV (wr.alloc o) w.heap.size (.slice va L.length vc) L):=fun o=>HO.out.grew ((jD.refl _).alloc o);go_wp2_with (at_builtin;refine KR rfl _ _ rfl w.heap.size (.slice va L.length vc) L rfl (HO2.out _) _ [X] rfl (iB _ _ hzs.out) (by have:=HLN.out;simp;omega) (Nat.le_trans HG.out.size zp2) ?_;intro v' w3 j8 hgr hqq;obtain⟨va2,vc2,rfl,_,_,_⟩:=jX j8;have HG3:=zh (And.intro j8 (sT (HO2.out _) (HG.out.alloc _) hgr));clear j8 hgr hqq);go_roundw
    case rel=>
     refine⟨k+1,by omega,by omega,by go_num,?_⟩;show _∧_;rw[← HSN.out];have hh:=HG3.out;rw[List.length_append] at hh;exact hh
    case measure=>simp[intOf];omega
   ·have ek:k=many:=(by omega);subst ek;have hw:=HW.out
    have HE:Hid (zV wr w.heap.size u7 (yW l k jZ)∧jD w wr):=by
     show _∧_;rw[xL] at hw;exact hw
    clear hw HW;go_wp2;go_ret;exact⟨_,rfl,HE.out⟩
  ·have ek:k=l.length:=by omega
   subst ek;have hw:=HW.out
   have HE:Hid (zV wr w.heap.size u7 (yW l many jZ)∧jD w wr):=by
    show _∧_;rw[List.take_length] at hw;exact hw
   clear hw HW;go_wp2
   all_goals
    go_ret;exact⟨_,rfl,HE.out⟩
mutual
def vT (jZ:Nat):Nat→Tr→Tr × Nat
 | left,.mk k n u s keys l=>(.mk k n u (JB s jZ) (yW keys 64 jZ) (kF jZ left l).1,(kF jZ left l).2)
def kF (jZ:Nat):Nat→List Tr→List Tr × Nat
 | left,[]=>([],left)
 | left,t::r=>if left=0 then ([],0) else ((vT jZ (left - 1) t).1::(kF jZ (vT jZ (left - 1) t).2 r).1,(kF jZ (vT jZ (left - 1) t).2 r).2)
end
theorem eZ (jZ:Nat) (l:List Tr) (t:Tr):∀left,kF jZ left (l++[t]) =
 if (kF jZ left l).2=0 then kF jZ left l else ((kF jZ left l).1++[(vT jZ ((kF jZ left l).2 - 1) t).1],(vT jZ ((kF jZ left l).2 - 1) t).2):=by
 induction l with
 | nil=>intro left;by_cases h:left=0<;>simp[kF,h]
 | cons x r ih=>
  intro left;rw[List.cons_append,kF,kF];by_cases h:left=0
  ·simp[h]
  ·rw[if_neg h,if_neg h,ih];by_cases h2:(kF jZ (vT jZ (left - 1) x).2 r).2=0
   ·rw[if_pos h2,if_pos h2]
   ·rw[if_neg h2,if_neg h2];simp
theorem sV (jZ:Nat) (l r:List Tr) (left:Nat) (h:(kF jZ left l).2=0):kF jZ left (l++r)=kF jZ left l:=by
 induction r generalizing l with
 | nil=>simp
 | cons x r ih=>
  have e:l++x::r=(l++[x])++r:=by simp
  have h2:kF jZ left (l++[x])=kF jZ left l:=by rw[eZ,if_pos h]
  rw[e,ih (l++[x]) (by rw[h2];exact h),h2]
mutual
theorem bQ (jZ:Nat):∀(t:Tr) (left:Nat),(vT jZ left t).1.size+(vT jZ left t).2≤left+1
 | .mk k n u s keys l,left=>by
  have:=VS jZ l left;simp only[vT,Tr.size];omega
theorem VS (jZ:Nat):∀(l:List Tr) (left:Nat),yG (kF jZ left l).1+(kF jZ left l).2≤left
 | [],left=>by simp[kF,yG]
 | t::r,left=>by
  rw[kF];by_cases h:left=0
  ·simp[h,yG]
  ·rw[if_neg h];have h1:=bQ jZ t (left - 1);have h2:=VS jZ r (vT jZ (left - 1) t).2;simp only[yG];omega
end
def KK (R:Nat→Prop) (W w:World) (v:Value) (ts:List Tr):Prop:=
 ∃vs S,qD w W.heap.size v vs∧zE w W.heap.size ts vs S∧(∀g,S g→W.heap.size≤g∧g < w.heap.size∧v.ownBlock≠some g)∧Moved R W w
theorem KK.start (R:Nat→Prop) (W:World):KK R W W (.slice none 0 0) []:=
 ⟨[],fun _=>False,qD.nil _ _,rfl,fun _ h=>h.elim,Moved.refl _ _⟩
theorem KK.form {R:Nat→Prop} {W w:World} {v:Value} {ts:List Tr} (h:KK R W w v ts):∃a c,v=.slice a ts.length c∧ts.length≤c∧kN c∧(a=none→c=0):=by
 obtain⟨vs,S,h1,h2,_⟩:=h;have:=jX h1.1
 rwa [h2.length] at this
theorem KK.step {R:Nat→Prop} {W wr w2 w3:World} {v v' xv:Value} {ts:List Tr} {x:Tr} (hR:∀g,R g→g < W.heap.size) (vs:List Value) (S:Nat→Prop) (h2:zE wr W.heap.size ts vs S) (h1:qD wr W.heap.size v vs)
 (h3:∀g,S g→W.heap.size≤g∧g < wr.heap.size∧v.ownBlock≠some g) (h4:Moved R W wr)
 (hx:qJ w2 wr.heap.size x xv (JP wr w2)) (hm:Moved R wr w2) (o:Obj) (j8:qD w3 W.heap.size v' (vs++[xv])) (hgr:(w2.alloc o).grownBy w3 v.ownBlock) (hn:yV (w2.alloc o) v.ownBlock v'.ownBlock):KK R W w3 v' (ts++[x]):=by
 have hm3:Moved (fun k=>some k=v.ownBlock) (w2.alloc o) w3:=Moved.of_grown hgr;have hga:jD w2 (w2.alloc o):=(jD.refl w2).alloc o;have hlt:∀g,v.ownBlock=some g→W.heap.size≤g∧g < wr.heap.size:=fun g hg=>World.ownsRow.lt h1.1 g hg;have hs2:wr.heap.size≤w2.heap.size:=hm.size;have hs3:w2.heap.size≤(w2.alloc o).heap.size:=hga.size;have hs4:(w2.alloc o).heap.size≤w3.heap.size:=hm3.size;have hWr:W.heap.size≤wr.heap.size:=h4.size;have k1:zE w3 W.heap.size ts vs S:=((h2.kept hm (fun g hg hr=>by have:=(h3 g hg).1;have:=hR g hr;omega)).grew hga).kept hm3 (fun g hg e=>(h3 g hg).2.2 e.symm);have k2:qJ w3 W.heap.size x xv (JP wr w2):=((hx.grew hga).kept hm3 (fun g hg e=>by have:=hlt g e.symm;have:=hg.1;omega)).base hWr;refine⟨vs++[xv],fun g=>S g∨JP wr w2 g,j8,k1.app (zE.one k2) (fun g hg hh=>by have:=(h3 g hg).2.1;have:=hh.1;omega),fun g hg=>?_,?_⟩
 ·have hb:W.heap.size≤g∧g < w2.heap.size:=by
   rcases hg with hg|hg
   ·have:=h3 g hg;omega
   ·exact⟨Nat.le_trans hWr hg.1,hg.2⟩
  refine⟨hb.1,by omega,fun e=>?_⟩;rcases hn g e with e|e
  ·rcases hg with hg|hg
   ·exact (h3 g hg).2.2 e
   ·have:=hlt g e;have:=hg.1;omega
  ·omega
 ·exact ((h4.trans' hm).grew hga).trans hm3 fun j hj e=>by have:=hlt j e.symm;omega
theorem KK.tree {R:Nat→Prop} {w0 W w:World} {v kv:Value} {ts:List Tr} {k n u:Int} {s:ByteArray} {keys:List ByteArray} (h:KK R W w v ts) (hb:zO k∧zO n∧J4 u∧kN s.size∧∀x∈keys,kN x.size)
 (h0:w0.heap.size≤W.heap.size) (hk:zV w w0.heap.size kv keys) (hkW:∀g,kv.ownBlock=some g→g < W.heap.size) :
 qJ w w0.heap.size (.mk k n u s keys ts) (.agg #[.int .i64 k,.int .i64 n,.int .u64 u,.string s,kv,v]) (JP w0 w):=by
 obtain⟨vs,S,h1,h2,h3,h4⟩:=h;simp only[qJ];refine⟨hb,kv,v,vs,S,rfl,hk,⟨JV h1.1 h0,h1.2⟩,fun g hg=>⟨?_,fun hs=>?_⟩,fun g hg=>⟨?_,fun hs=>(h3 g hs).2.2 hg⟩,fun g hg hg2=>?_,fun g hg=>?_,h2.base h0⟩
 ·have:=World.ownsRow.lt hk g hg;exact⟨this.1,this.2⟩
 ·have:=(h3 g hs).1;have:=hkW g hg;omega
 ·have:=World.ownsRow.lt h1.1 g hg;exact⟨by omega,this.2⟩
 ·have:=World.ownsRow.lt h1.1 g hg2;have:=hkW g hg;omega
 ·have:=h3 g hg;exact⟨by omega,this.2.1⟩
theorem KK.kept {R T:Nat→Prop} {W w w':World} {v:Value} {ts:List Tr} (h:KK R W w v ts) (hm:Moved T w w') (hT:∀g,T g→g < W.heap.size) (hRT:∀g,T g→R g):KK R W w' v ts:=by
 obtain⟨vs,S,h1,h2,h3,h4⟩:=h;refine⟨vs,S,⟨Moved.owns hm h1.1 (fun g hg ht=>by have:=World.ownsRow.lt h1.1 g hg;have:=hT g ht;omega),h1.2⟩,h2.kept hm (fun g hg ht=>by have:=(h3 g hg).1;have:=hT g ht;omega),fun g hg=>?_,h4.trans hm (fun g _ ht=>hRT g ht)⟩;have:=h3 g hg;have:=hm.size;exact⟨by omega,by omega,(h3 g hg).2.2⟩
theorem KK.wider {R T:Nat→Prop} {W w:World} {v:Value} {ts:List Tr} (h:KK R W w v ts) (hRT:∀g,R g→T g):KK T W w v ts:=by
 obtain⟨vs,S,h1,h2,h3,h4⟩:=h;exact⟨vs,S,h1,h2,h3,h4.mono (fun g _ hg=>hRT g hg)⟩
mutual
def Few:Tr→Prop | .mk _ _ _ _ keys l=>keys.length≤4096∧l.length≤4096∧FewL l
def FewL:List Tr→Prop | []=>True | t::r=>Few t∧FewL r
end
theorem FewL.mem {l:List Tr} (h:FewL l) {x:Tr} (hx:x∈l):Few x:=by
 induction l with
 | nil=>cases hx
 | cons t r ih=>
  simp only[FewL] at h;rcases List.mem_cons.1 hx with rfl|hx
  ·exact h.1
  ·exact ih h.2 hx
theorem sW {w:World} {g:Nat} {a b c d e f:Value} {t:TypeId} (h:w.heap[g]? = some (.cells #[a,b,c,d,e,f] t (0,0))) (a' b' c' d' e' f':Value) :
 ((((((w.setCell ⟨g,0,none⟩ a').setCell ⟨g,1,none⟩ b').setCell ⟨g,2,none⟩ c').setCell ⟨g,3,none⟩ d').setCell ⟨g,4,none⟩ e').setCell ⟨g,5,none⟩ f').heap[g]? = some (.cells #[a',b',c',d',e',f'] t (0,0)):=by
 have h1:=heap_setCell_same w g 0 _ _ a' h;have h2:=heap_setCell_same _ g 1 _ _ b' h1;have h3:=heap_setCell_same _ g 2 _ _ c' h2;have h4:=heap_setCell_same _ g 3 _ _ d' h3;have h5:=heap_setCell_same _ g 4 _ _ e' h4;have h6:=heap_setCell_same _ g 5 _ _ f' h5;simpa using h6
theorem vQ (w:World) (g:Nat) (a' b' c' d' e' f':Value) :
 Moved (fun k=>k=g) w ((((((w.setCell ⟨g,0,none⟩ a').setCell ⟨g,1,none⟩ b').setCell ⟨g,2,none⟩ c').setCell ⟨g,3,none⟩ d').setCell ⟨g,4,none⟩ e').setCell ⟨g,5,none⟩ f'):=
 Moved.setCell (S:=fun k=>k=g) (p:=⟨g,5,none⟩) (Moved.setCell (S:=fun k=>k=g) (p:=⟨g,4,none⟩) (Moved.setCell (S:=fun k=>k=g) (p:=⟨g,3,none⟩) (Moved.setCell (S:=fun k=>k=g) (p:=⟨g,2,none⟩) (Moved.setCell (S:=fun k=>k=g) (p:=⟨g,1,none⟩) (Moved.setCell (S:=fun k=>k=g) (p:=⟨g,0,none⟩) (Moved.refl _ w) (fun _=>rfl) _) (fun _=>rfl) _) (fun _=>rfl) _) (fun _=>rfl) _) (fun _=>rfl) _) (fun _=>rfl) _
abbrev yX (w:World) (g:Nat) (a' b' c' d' e' f':Value):World:=((((((w.setCell ⟨g,0,none⟩ a').setCell ⟨g,1,none⟩ b').setCell ⟨g,2,none⟩ c').setCell ⟨g,3,none⟩ d').setCell ⟨g,4,none⟩ e').setCell ⟨g,5,none⟩ f')
theorem fA (w:World) (g r:Nat) (a b c d e f:Value) (x:Value):Moved (fun k=>k=g∨k=r) w (yX (w.setCell ⟨g,5,none⟩ x) r a b c d e f):=
 (Moved.setCell (S:=fun k=>k=g∨k=r) (p:=⟨g,5,none⟩) (Moved.refl _ w) (fun _=>.inl rfl) x).trans (vQ _ r a b c d e f) (fun _ _ h=>.inr h)
theorem Moved.fresh {S:Nat→Prop} {w0 w w':World} (hg:jD w0 w) (h:Moved S w w') (hS:∀g,S g→w0.heap.size≤g):jD w0 w':=
 Below.trans hg (h.below hg.size hS)
theorem jM.node6 {w:World} {t:Tr} {v:Value} (h:jM w t v):VE v:=by
 cases t;simp only[jM] at h;obtain⟨_,kv,lv,vs,rfl,⟨a4,c4,rfl,_⟩,⟨a5,c5,rfl,_⟩,_⟩:=h;exact⟨_,_,_,_,_,_,_,_,_,_,rfl⟩
theorem yQ.get {w:World} {b o:Nat} {x0 x1 x2 x3 x4 x5:Value} (h:yQ w b o (.agg #[x0,x1,x2,x3,x4,x5])) :
 w.cell? ⟨b,o,none⟩=some x0∧w.cell? ⟨b,o+1,none⟩=some x1∧w.cell? ⟨b,o+2,none⟩=some x2∧w.cell? ⟨b,o+3,none⟩=some x3∧w.cell? ⟨b,o+4,none⟩=some x4∧w.cell? ⟨b,o+5,none⟩=some x5:=by
 obtain⟨c0,c1,c2,c3,c4,c5,e,h⟩:=h;injection e with e;injection e with e;simp at e;obtain⟨rfl,rfl,rfl,rfl,rfl,rfl⟩:=e;exact h
theorem QF {w:World} {B:Nat} {e t:TypeId} {size n:Nat} {v:Value} {xs:List Value} (h:w.ownsRow B e size v n xs) {g:Nat} {cs:Array Value} (hg:w.heap[g]? = some (.cells cs t (0,0))) (he:e≠t):v.ownBlock≠some g:=by
 intro hv;rcases h.2 with ⟨rfl,_⟩|⟨g2,cap,cur,rfl,_,h2,_⟩
 ·cases hv
 ·have:g2=g:=by injection hv
  subst this;rw[hg] at h2;injection h2 with h2;injection h2 with _ h2;exact he h2.symm
def fB (left jZ:Nat):Obj:=.cells #[.int .i64 left,.int .i64 jZ] 82 (0,0)
theorem CR {w:World} {rb left jZ:Nat} (h:w.heap[rb]? = some (fB left jZ)) (p:Nat):(w.setCell ⟨rb,0,none⟩ (.int .i64 p)).heap[rb]? = some (fB p jZ):=by
 have:=heap_setCell_same w rb 0 _ _ (.int .i64 p) h;simpa [fB] using this
theorem xM (jZ left:Nat) (l:List Tr) (k:Nat) (h:k=l.length∨(kF jZ left (l.take k)).2=0):kF jZ left (l.take k)=kF jZ left l:=by
 rcases h with rfl|h
 ·rw[List.take_length]
 ·have:=sV jZ (l.take k) (l.drop k) left h;rw[List.take_append_drop] at this;exact this.symm
theorem sX (jZ left:Nat) (l:List Tr) (k p:Nat) (x:Tr) (hx:l[k]? = some x) (h:(kF jZ left (l.take k)).2=p+1) :
 kF jZ left (l.take (k+1))=((kF jZ left (l.take k)).1++[(vT jZ p x).1],(vT jZ p x).2):=by
 rw[List.take_add_one,hx];show kF jZ left (l.take k++[x])=_;rw[eZ,if_neg zo,h];rfl
theorem pQ {l:List ByteArray} (h:∀s∈l,kN s.size) (many jZ:Nat):∀s∈yW l many jZ,kN s.size:=by
 intro s hs;obtain⟨y,hy,rfl⟩:=List.mem_map.1 hs;have:=h y (List.mem_of_mem_take hy);unfold kN at *;rw[ZQ];omega
theorem pR {s:ByteArray} (h:kN s.size) (jZ:Nat):kN (JB s jZ).size:=by unfold kN at *;rw[ZQ];omega
theorem sY (jZ:Nat) (hlong:jZ≤1000) (W:World) (rb:Nat) (hWrb:W.heap.size≤rb):∀(m:Nat) (t:Tr),t.size≤m→∀(v:Value) (w:World) (left:Nat),left≤4096→jM W t v→jD W w→w.heap[rb]? = some (fB left jZ) →
 Calls prog 52 #[jI rb,v] w fun r w'=>∃v',r=.returned v'∧qJ w' w.heap.size (vT jZ left t).1 v' (JP w w')∧Moved (fun g=>g=rb) w w'∧w'.heap[rb]? = some (fB (vT jZ left t).2 jZ):=by
 intro m
 induction m with
 | zero=>intro t ht;have:=t.size_pos;omega
 | succ m ih=>
 intro t ht v w left hleft hn hW hrb;obtain⟨k,n,u,s,keys,l⟩:=t;simp only[jM] at hn;obtain⟨hb,kv,lv,vs,rfl,hks,qX,yC⟩:=hn;have hkl:vs.length=l.length:=yC.length;have HKS:=zh hks;have HK:=zh yC;have HB:=zh hb;obtain⟨a4,c4,rfl,hx1,hx2,hx3,hx4⟩:=hks;clear hx1 hx2 hx3 hx4;have k7:=zh qX;obtain⟨a5,c5,rfl,hll,hc5,hx3,hx4⟩:=qX;rw[hkl] at k7 hll⊢;have kI:l.length≤9223372036854775807:=by unfold kN at hc5;omega
 clear hx3 hx4 hll
 have hkz:Hid (∀x∈keys,kN x.size):=fun x hx=>by
  obtain⟨_,_,_,_,_,_,h⟩:=HKS.out;obtain⟨i,hi,rfl⟩:=List.mem_iff_getElem.1 hx;exact (h i _ (List.getElem?_eq_getElem hi)).1
 have hsz:∀x∈l,x.size≤m:=fun x hx=>by have:=ZO hx;simp only[Tr.size] at ht;omega
 have HSZ:=zh hsz;have HW0:=zh hW;clear yC hb hsz ht hkl hc5 hW;go_enter func52,ntmps52;go_wp2_with fail;have hb1:=heap_alloc_new w (.cells #[.int .i64 k,.int .i64 n,.int .u64 u,.string s,.slice a4 keys.length c4,.slice a5 l.length c5] 26);have hg1:=(jD.refl w).alloc (.cells #[.int .i64 k,.int .i64 n,.int .u64 u,.string s,.slice a4 keys.length c4,.slice a5 l.length c5] 26);have hs1:(w.alloc (.cells #[.int .i64 k,.int .i64 n,.int .u64 u,.string s,.slice a4 keys.length c4,.slice a5 l.length c5] 26)).heap.size=w.heap.size+1:=World.size_alloc _ _;generalize (w.alloc (.cells #[.int .i64 k,.int .i64 n,.int .u64 u,.string s,.slice a4 keys.length c4,.slice a5 l.length c5] 26))=w1 at *;have hb2:=heap_alloc_new w1 (.cells #[.int .i64 0,.int .i64 0,.int .u64 0,.string ⟨#[]⟩,.slice none 0 0,.slice none 0 0] 26);have hg2:=(jD.refl w1).alloc (.cells #[.int .i64 0,.int .i64 0,.int .u64 0,.string ⟨#[]⟩,.slice none 0 0,.slice none 0 0] 26);have hs2:(w1.alloc (.cells #[.int .i64 0,.int .i64 0,.int .u64 0,.string ⟨#[]⟩,.slice none 0 0,.slice none 0 0] 26)).heap.size=w1.heap.size+1:=World.size_alloc _ _;rw[hs1] at hb2 hs2;generalize (w1.alloc (.cells #[.int .i64 0,.int .i64 0,.int .u64 0,.string ⟨#[]⟩,.slice none 0 0,.slice none 0 0] 26))=w2 at *;replace hb1:=hg2.heap hb1;have hG:=hg1.trans hg2;have hs2':w2.heap.size=w.heap.size+2:=by omega
 obtain⟨N,hN⟩:∃N,w.heap.size=N:=⟨_,rfl⟩;have hrbN:Hid (rb < N):=by show _ < _;rw[← hN];exact (Array.getElem?_eq_some_iff.1 hrb).1
 replace hrb:=hG.heap hrb;rw[hN] at hb1 hb2 hs2'⊢;have hB2:Hid (N+2≤w2.heap.size):=by show _≤_;omega
 have c0:=jA hb1 0 _ rfl;have c1:=jA hb1 1 _ rfl;have c2:=jA hb1 2 _ rfl;have c3:=jA hb1 3 _ rfl;have c4':=jA hb1 4 _ rfl;have r1:=jA hrb 1 _ rfl;have HB1:=zh hb1;have HB2:=zh hb2;have HRB:=zh hrb;have HG:=zh hG;have HS2:=zh hs2';have HN:=zh hN;have hsl:Hid (kN s.size):=HB.out.2.2.2;clear hb1 hb2 hG hs1 hs2 hs2' hg1 hg2 hN hrb;refine JN jD [[],[0],[],[2],[],[4],[],[6],[],[8],[9],[10],[7,11],[],[13],[],[15],[16],[17],[14,18],[1,3,5,12,19],[],[20,21]] [[(10,2),(11,3),(12,4),(13,5),(14,6),(15,7),(16,8),(17,9),(18,10),(19,11),(20,12),(21,13),(22,14),(23,15),(24,16),(25,17),(26,18),(27,19),(28,20),(5,21)],[(8,0),(10,2),(11,3),(12,4),(13,5),(14,6),(15,7),(16,8),(17,9),(18,10),(19,11),(20,12),(21,13),(22,14),(23,15),(24,16),(25,17),(26,18),(27,19),(5,21)],[(8,0),(9,1),(12,4),(13,5),(14,6),(15,7),(16,8),(17,9),(18,10),(19,11),(20,12),(21,13),(22,14),(23,15),(24,16),(25,17),(26,18),(27,19),(28,20),(5,21)],[(8,0),(9,1),(10,2),(12,4),(13,5),(14,6),(15,7),(16,8),(17,9),(18,10),(19,11),(20,12),(21,13),(22,14),(23,15),(24,16),(25,17),(26,18),(27,19),(5,21)],[(8,0),(9,1),(10,2),(11,3),(14,6),(15,7),(16,8),(17,9),(18,10),(19,11),(20,12),(21,13),(22,14),(23,15),(24,16),(25,17),(26,18),(27,19),(28,20),(5,21)],[(8,0),(9,1),(10,2),(11,3),(12,4),(14,6),(15,7),(16,8),(17,9),(18,10),(19,11),(20,12),(21,13),(22,14),(23,15),(24,16),(25,17),(26,18),(27,19),(5,21)],[(8,0),(9,1),(10,2),(11,3),(12,4),(13,5),(16,8),(17,9),(18,10),(19,11),(20,12),(21,13),(22,14),(23,15),(24,16),(25,17),(26,18),(27,19),(28,20),(5,21)],[(8,0),(9,1),(10,2),(11,3),(12,4),(13,5),(14,6),(16,8),(17,9),(18,10),(19,11),(21,13),(22,14),(23,15),(24,16),(25,17),(26,18),(27,19),(28,20),(5,21)],[(8,0),(9,1),(10,2),(11,3),(12,4),(13,5),(14,6),(15,7),(18,10),(19,11),(20,12),(21,13),(22,14),(23,15),(24,16),(25,17),(26,18),(27,19),(28,20),(5,21)],[(8,0),(9,1),(10,2),(11,3),(12,4),(13,5),(14,6),(15,7),(16,8),(19,11),(20,12),(21,13),(22,14),(23,15),(24,16),(25,17),(26,18),(27,19),(28,20),(5,21)],[(8,0),(9,1),(10,2),(11,3),(12,4),(13,5),(14,6),(15,7),(16,8),(17,9),(20,12),(21,13),(22,14),(23,15),(24,16),(25,17),(26,18),(27,19),(28,20),(5,21)],[(8,0),(9,1),(10,2),(11,3),(12,4),(13,5),(14,6),(15,7),(16,8),(17,9),(18,10),(21,13),(22,14),(23,15),(24,16),(25,17),(26,18),(27,19),(28,20),(5,21)],[(8,0),(9,1),(10,2),(11,3),(12,4),(13,5),(14,6),(15,7),(16,8),(17,9),(18,10),(19,11),(21,13),(22,14),(23,15),(24,16),(25,17),(26,18),(27,19),(5,21)],[(8,0),(9,1),(10,2),(11,3),(12,4),(13,5),(14,6),(15,7),(16,8),(17,9),(18,10),(19,11),(20,12),(23,15),(24,16),(25,17),(26,18),(27,19),(28,20),(5,21)],[(8,0),(9,1),(10,2),(11,3),(12,4),(13,5),(14,6),(15,7),(16,8),(17,9),(18,10),(19,11),(20,12),(21,13),(23,15),(24,16),(25,17),(26,18),(28,20),(5,21)],[(8,0),(9,1),(10,2),(11,3),(12,4),(13,5),(14,6),(15,7),(16,8),(17,9),(18,10),(19,11),(20,12),(21,13),(22,14),(25,17),(26,18),(27,19),(28,20),(5,21)],[(8,0),(9,1),(10,2),(11,3),(12,4),(13,5),(14,6),(15,7),(16,8),(17,9),(18,10),(19,11),(20,12),(21,13),(22,14),(23,15),(26,18),(27,19),(28,20),(5,21)],[(8,0),(9,1),(10,2),(11,3),(12,4),(13,5),(14,6),(15,7),(16,8),(17,9),(18,10),(19,11),(20,12),(21,13),(22,14),(23,15),(24,16),(27,19),(28,20),(5,21)],[(8,0),(9,1),(10,2),(11,3),(12,4),(13,5),(14,6),(15,7),(16,8),(17,9),(18,10),(19,11),(20,12),(21,13),(22,14),(23,15),(24,16),(25,17),(28,20),(5,21)],[(8,0),(9,1),(10,2),(11,3),(12,4),(13,5),(14,6),(15,7),(16,8),(17,9),(18,10),(19,11),(20,12),(21,13),(22,14),(23,15),(24,16),(25,17),(26,18),(5,21)],[(8,0),(9,1),(10,2),(11,3),(12,4),(13,5),(14,6),(15,7),(16,8),(17,9),(18,10),(19,11),(20,12),(21,13),(22,14),(23,15),(24,16),(25,17),(26,18),(27,19),(5,21)],[(8,0),(9,1),(10,2),(11,3),(12,4),(13,5),(14,6),(15,7),(16,8),(17,9),(18,10),(19,11),(20,12),(21,13),(22,14),(23,15),(24,16),(25,17),(26,18),(27,19),(28,20)],[(8,0),(9,1),(10,2),(11,3),(12,4),(13,5),(14,6),(15,7),(16,8),(17,9),(18,10),(19,11),(20,12),(21,13),(22,14),(23,15),(24,16),(25,17),(26,18),(27,19),(28,20),(5,21)]]
  [Is (.pointer (some ⟨N,0,none⟩)),Is (.int .i64 k),Is (.pointer (some ⟨N,1,none⟩)),Is (.int .i64 n),Is (.pointer (some ⟨N,2,none⟩)),Is (.int .u64 u),Is (.pointer (some ⟨N,3,none⟩)),Is (.string s),Is (jI rb),Is (jI rb),Is (.pointer (some ⟨rb,1,none⟩)),Is (.int .i64 jZ),Is (.string (JB s jZ)),Is (.pointer (some ⟨N,4,none⟩)),Is (.slice a4 keys.length c4),Is (jI rb),Is (jI rb),Is (.pointer (some ⟨rb,1,none⟩)),Is (.int .i64 jZ),fun v w=>zV w (N+2) v (yW keys 64 jZ),fun v w=>∃kv',v=.agg #[.int .i64 k,.int .i64 n,.int .u64 u,.string (JB s jZ),kv',.slice none 0 0]∧zV w (N+2) kv' (yW keys 64 jZ),fun v w=>∃g,v=.pointer (some ⟨g,0,none⟩)∧(N+2)≤g∧w.heap[g]? = some (rowN zF)]
  zk jD.trans jD.refl (jD.refl _).drew zk ⟨jL,jL,jL,jL,jL,jL,jL,jL,jL,jL,jL,jL,jL,jL,jL,jL,jL,jL,jL,fun _ _ _ hg h=>zV.grew h hg,fun _ _ _ hg h=>h.elim fun q h=>⟨q,h.1,zV.grew h.2 hg⟩,fun _ _ _ hg h=>h.elim fun q h=>⟨q,h.1,h.2.1,hg.heap h.2.2⟩,trivial⟩ rfl ⟨?_,?_,?_,?_,?_,?_,?_,?_,?_,?_,?_,?_,?_,?_,?_,?_,?_,?_,?_,?_,?_,?_,trivial⟩ ?_ rfl
 ·exact r9
 ·exact zb19
 ·exact r9
 ·exact zb19
 ·exact r9
 ·exact zb19
 ·exact r9
 ·exact zb19
 ·exact r9
 ·exact zb20
 ·exact zb20
 ·exact zb19
 ·intro y w2' hG hD K hK;simp only[kO,zq4,zq5,Is,and_true] at hD;simp only[jF,Act.put,zq,Is] at hK⊢;simp only[hD] at hK⊢;clear hD;refine jO ?_;go_simp;refine (iC _ s jZ hsl.out hlong).mono ?_;rintro r w3 ⟨rfl,rfl⟩;exact hK _ _ _ rfl (jD.refl _) rfl
 ·exact r9
 ·exact zb19
 ·exact r9
 ·exact zb20
 ·exact zb20
 ·exact zb19
 ·intro y w2' hG hD K hK;simp only[kO,zq4,zq5,Is,and_true] at hD;simp only[jF,Act.put,zq,Is] at hK⊢;simp only[hD] at hK⊢;clear hD;refine jO ?_;go_simp;refine (CQ 64 jZ _ _ _ (HKS.out.grew (HW0.out.trans (HG.out.trans hG))) zo hlong).mono ?_;rintro r w3 ⟨v',rfl,hv,hg⟩;exact hK _ _ _ rfl hg (JV hv (Nat.le_trans hB2.out hG.size))
 ·intro y w2' hG hD K hK;simp only[kO,zq4,zq5,Is,and_true] at hD;have h19:=hD.2.2.2.2;simp only[jF,Act.put,zq,Is] at hK⊢;simp only[hD] at hK⊢;clear hD;refine jO ?_;refine Exists.elim (jX h19) fun va h=>Exists.elim h fun vc h=>?_;have hs:=h.1;clear h;rw[hs] at hK h19⊢;go_simp;exact hK _ _ _ rfl (jD.refl _) ⟨_,rfl,h19⟩
 ·intro y w2' hG hD K hK;simp only[jF,Act.put,zq,Is] at hK⊢;refine jO ?_;go_simp;exact hK _ _ _ rfl ((jD.refl _).alloc _) ⟨_,rfl,Nat.le_trans hB2.out hG.size,heap_alloc_new _ _⟩
 ·intro y w2' hG hF K hK;simp only[z6,Is,and_true,Nat.reduceAdd] at hF;have h0:=hF.1;have h1:=hF.2.1;have h2:=hF.2.2.1;have h3:=hF.2.2.2.1;have h4:=hF.2.2.2.2.1;have h5:=hF.2.2.2.2.2.1;have h6:=hF.2.2.2.2.2.2.1;have h7:=hF.2.2.2.2.2.2.2.1;have h8:=hF.2.2.2.2.2.2.2.2.1;have h9:=hF.2.2.2.2.2.2.2.2.2.1;have h10:=hF.2.2.2.2.2.2.2.2.2.2.1;have h11:=hF.2.2.2.2.2.2.2.2.2.2.2.1;have h12:=hF.2.2.2.2.2.2.2.2.2.2.2.2.1;have h13:=hF.2.2.2.2.2.2.2.2.2.2.2.2.2.1;have h14:=hF.2.2.2.2.2.2.2.2.2.2.2.2.2.2.1;have h15:=hF.2.2.2.2.2.2.2.2.2.2.2.2.2.2.2.1;have h16:=hF.2.2.2.2.2.2.2.2.2.2.2.2.2.2.2.2.1;have h17:=hF.2.2.2.2.2.2.2.2.2.2.2.2.2.2.2.2.2.1;have h18:=hF.2.2.2.2.2.2.2.2.2.2.2.2.2.2.2.2.2.2.1;have h19:=hF.2.2.2.2.2.2.2.2.2.2.2.2.2.2.2.2.2.2.2.1;have h20:=hF.2.2.2.2.2.2.2.2.2.2.2.2.2.2.2.2.2.2.2.2.1;have h21:=hF.2.2.2.2.2.2.2.2.2.2.2.2.2.2.2.2.2.2.2.2.2;clear hF;simp only[J1];simp only[jF,Act.put,zq,Is] at hK⊢;rw[h0,h1,h2,h3,h4,h5,h6,h7,h8,h9,h10,h11,h12,h13,h14,h15,h16,h17,h18];clear h0 h1 h2 h3 h4 h5 h6 h7 h8 h9 h10 h11 h12 h13 h14 h15 h16 h17 h18;refine jO ?_;refine Exists.elim h20 fun kv' h=>?_;have hs20:=h.1;have hkv:=h.2;refine Exists.elim (jX hkv) fun va h=>Exists.elim h fun vc h=>?_;have hs:=h.1;rw[hs] at hkv hs20;clear h h20 hs h19;refine Exists.elim h21 fun g h=>?_;have hs21:=h.1;have hgB:=h.2.1;have jK:=h.2.2;clear h h21;rw[hs20,hs21];clear hs20 hs21;have f0:=jE jK 0;have f1:=jE jK 1;have f2:=jE jK 2;have f3:=jE jK 3;have f4:=jE jK 4;have f5:=jE jK 5;have d0:=jA jK 0 _ rfl;have d1:=jA jK 1 _ rfl;have d2:=jA jK 2 _ rfl;have d3:=jA jK 3 _ rfl;have d4:=jA jK 4 _ rfl;have d5:=jA jK 5 _ rfl;have hrow2:=sW jK (.int .i64 k) (.int .i64 n) (.int .u64 u) (.string (JB s jZ)) (.slice va (yW keys 64 jZ).length vc) (.slice none 0 0);have hmv:=vQ w2' g (.int .i64 k) (.int .i64 n) (.int .u64 u) (.string (JB s jZ)) (.slice va (yW keys 64 jZ).length vc) (.slice none 0 0);have hkv2:zV _ (N+2) (.slice va (yW keys 64 jZ).length vc) (yW keys 64 jZ):=Moved.owns hmv hkv (fun q hq e=>QF hkv jK zd (by rw[hq,e]));have hgr:=Moved.fresh hG hmv (fun q e=>by have:=HS2.out;omega);clear hG jK hmv hkv;go_simp;refine hK _ _ ?_;clear f0 f1 f2 f3 f4 f5 d0 d1 d2 d3 d4 d5 hK;generalize ((((((w2'.setCell ⟨g,0,none⟩ (.int .i64 k)).setCell ⟨g,1,none⟩ (.int .i64 n)).setCell ⟨g,2,none⟩ (.int .u64 u)).setCell ⟨g,3,none⟩ (.string (JB s jZ))).setCell ⟨g,4,none⟩ (.slice va (yW keys 64 jZ).length vc)).setCell ⟨g,5,none⟩ (.slice none 0 0))=w3 at *;have K6:=zh hrow2;have HKV:=zh hkv2;have HB1':=zh (hgr.heap HB1.out);have HB2':=zh (hgr.heap HB2.out);have HRB':=zh (hgr.heap HRB.out);have HG3:=zh (HG.out.trans hgr);clear hrow2 hkv2 HB1 HB2 HRB HG c0 c1 c2 c3 c4' r1;have hgN:Hid (N+2≤g):=hgB;clear hgB;generalize y 19=y19;have hkz2:Hid (∀x∈yW keys 64 jZ,kN x.size):=pQ hkz.out 64 jZ;generalize hK2:yW keys 64 jZ=keys2 at *;have HK2:=zh hK2;clear hK2;have hsl2:Hid (kN (JB s jZ).size):=pR hsl.out jZ;generalize hSS:JB s jZ=s2 at *;have HSS:=zh hSS;clear hSS;go_wp2_with fail
  go_loopw [6,7] (fun v i wr=>∃(kk lf:Nat),kk≤l.length∧lf≤4096∧i=.int .i64 kk∧Hid (KK (fun g=>g=rb) w3 wr v (kF jZ left (l.take kk)).1∧(kF jZ left (l.take kk)).2=lf∧wr.heap[rb]? = some (fB lf jZ))) (fun _ i _=>l.length - (intOf i).toNat)
  case atStart=>exact⟨0,left,Nat.zero_le _,hleft,rfl,by
   show _∧_∧_
   exact⟨by simpa [kF] using KK.start _ _,by simp[kF],HRB'.out⟩⟩
  case round=>
   obtain⟨kk,lf,hkk,hlf,rfl,HW⟩:=hrel;have hm3:Moved (fun g=>g=rb) w3 wr:=by obtain⟨_,_,_,_,_,hm⟩:=HW.out.1;exact hm
   have HM:=zh hm3;have b5:=jA (hm3.heap HB1'.out (by have:=hrbN.out;omega)) 5 _ rfl;have q0:=jA HW.out.2.2 0 _ rfl;clear hm3;by_cases hgo:kk < l.length∧0 < lf
   ·obtain⟨hlt,hpos⟩:=hgo;obtain⟨p,rfl⟩:∃p,lf=p+1:=⟨lf - 1,by omega⟩;obtain⟨x,hx⟩:∃x,l[kk]? = some x:=⟨_,List.getElem?_eq_getElem hlt⟩;obtain⟨xv,hxv,hnx⟩:=HK.out.get hx;have hxm:x∈l:=List.mem_of_getElem? hx;have HX:=zh (sX jZ left l kk p x hx HW.out.2.1);have hxs:=HSZ.out x hxm;have hWr:Hid (jD W wr):=Moved.fresh (HW0.out.trans HG3.out) HM.out (fun g h=>by omega);have HNX:=zh hnx
    obtain⟨b,off,rfl,hc6⟩:∃b off,a5=some ⟨b,off,none⟩∧yQ wr b (off+kk*6) xv:=by
     obtain⟨a,c,e,_,_,_,h⟩:=k7.out;injection e with e1 e2 e3;subst e1;obtain⟨b,off,e,h6⟩:=h kk xv hxv;exact⟨b,off,e,h6.grew hWr.out⟩
    obtain⟨xk,xn,xu,xs,xa4,xn4,xc4,xa5,xn5,xc5,rfl⟩:=hnx.node6;have hmS:Moved (fun g=>g=rb) wr (wr.setCell ⟨rb,0,none⟩ (.int .i64 p)):=Moved.setCell (S:=fun g=>g=rb) (p:=⟨rb,0,none⟩) (Moved.refl _ wr) (fun _=>rfl) _;obtain⟨e0,e1,e2,e3,e4,e5⟩:=hc6.get;have qf:=jE HW.out.2.2 0;have hlti:(kk:Int) < l.length:=(by omega);have HROOM:=zh (CR HW.out.2.2 p)
    have hne:¬b=rb:=by
     have h0:=(hc6.grew (jD.refl _)).get.1;obtain⟨a,c,e,_,_,_,h⟩:=k7.out;injection e with e1 e2 e3;obtain⟨b',off',e,h6⟩:=h kk _ hxv;rw[← e1] at e;injection e with e;injection e with e;have:=World.block_lt_of_cell? W _ h6.get.1;simp only at this;omega
    have hne2:¬rb=b:=fun e=>hne e.symm;have hrN:¬rb=N:=(by have:=hrbN.out;omega);have hrN2:¬N=rb:=(by have:=hrbN.out;omega);clear hc6 hx hxv hnx hxm hpos;have HMS:=zh hmS;have hrb3:Hid (rb < w3.heap.size):=(Array.getElem?_eq_some_iff.1 HRB'.out).1;have HWS:Hid (jD W (wr.setCell ⟨rb,0,none⟩ (.int .i64 p))):=Moved.fresh hWr.out hmS (fun g h=>by omega);have HWK:Hid (KK (fun g=>g=rb) w3 (wr.setCell ⟨rb,0,none⟩ (.int .i64 p)) u6 (kF jZ left (l.take kk)).1):=HW.out.1.kept hmS (fun g h=>by have:=hrb3.out;omega) (fun _ h=>h);clear hmS;go_wp2_with fail;refine (ih x hxs _ _ p zo HNX.out HWS.out HROOM.out).mono ?_;rintro r w4 ⟨xv,rfl,hox,hm4,hr4⟩;obtain⟨yk,yn,yu,ys,ya4,yn4,yc4,ya5,yn5,yc5,rfl⟩:=hox.node6;have HOX:=zh hox;have HM4:=zh hm4;have HR4:=zh hr4;obtain⟨vs4,S4,q1,q2,q3,q4⟩:=HWK.out;obtain⟨ga,gc,rfl,hz1,hz2,hz3⟩:=HWK.out.form
    have HLN:Hid ((kF jZ left (l.take kk)).1.length≤4096):=by
     show _≤_;have h1:=KO (kF jZ left (l.take kk)).1;have h2:=VS jZ (l.take kk) left;omega
    have HV4:Hid (vs4.length≤4096):=by show _≤_;rw[q2.length];exact HLN.out
    have HLF:Hid ((vT jZ p x).2≤4096):=by
     show _≤_;have h1:=bQ jZ x p;have h2:=(vT jZ p x).1.size_pos;omega
    have HQ1:=zh q1;have HQ2:=zh q2;have HQ3:=zh q3;have HQ4:=zh q4;have HSW:Hid (w3.heap.size≤w4.heap.size):=Nat.le_trans q4.size hm4.size;have HON:Hid (∀o,qD (w4.alloc o) w3.heap.size (.slice ga (kF jZ left (l.take kk)).1.length gc) vs4):=fun o=>qD.grew ⟨Moved.owns hm4 q1.1 (fun g hg e=>by have:=(World.ownsRow.lt q1.1 g hg).1;have:=hrb3.out;omega),q1.2⟩ ((jD.refl _).alloc o);have HSZ4:Hid (∀o,w3.heap.size≤(w4.alloc o).heap.size):=fun o=>Nat.le_trans HSW.out ((jD.refl w4).alloc o).size;clear q0 q1 q2 q3 q4 hz1 hz2 hz3 hox hm4 hr4 HW HWK e0 e1 e2 e3 e4 e5 b5 qf;generalize (kF jZ left (l.take kk)).1=L at *;go_wp2_with (at_builtin;refine KQ rfl _ _ rfl w3.heap.size _ vs4 rfl (HON.out _) _ _ (.agg #[.int .i64 yk,.int .i64 yn,.int .u64 yu,.string ys,.slice ya4 yn4 yc4,.slice ya5 yn5 yc5]) rfl (heap_alloc_new _ _) ⟨_,_,_,_,_,_,_,_,_,_,rfl⟩ (by have:=HV4.out;omega) (HSZ4.out _) ?_;intro v' w5 j8 hgr hnx;obtain⟨va2,vc2,rfl,hz1,hz2,hz3⟩:=jX j8.1;have HG5:=zh (And.intro (KK.step (R:=fun g=>g=rb) (fun g h=>by have:=hrb3.out;omega) vs4 S4 HQ2.out HQ1.out HQ3.out HQ4.out HOX.out HM4.out _ j8 hgr hnx) ((Moved.of_grown hgr).heap (((jD.refl w4).alloc _).heap HR4.out) (fun e=>by have:=(World.ownsRow.lt HQ1.out.1 rb e.symm).1;have:=hrb3.out;omega)));clear j8 hgr hnx hz1 hz2 hz3);go_roundw
    case rel=>
     refine⟨kk+1,(vT jZ p x).2,by omega,HLF.out,by go_num,?_⟩;show _∧_∧_;rw[HX.out];have hh:=HG5.out;rw[List.length_append] at hh;exact⟨hh.1,rfl,hh.2⟩
    case measure=>simp[intOf];omega
   ·have hend:=xM jZ left l kk (by have:=HW.out.2.1;omega);have HE:=HW.out;rw[hend] at HE;have HEH:=zh HE;have jK:=HM.out.heap K6.out (by have:=hgN.out;have:=hrbN.out;omega);have kC:=HM.out.heap HB2'.out (by have:=hrbN.out;omega);have HROWW:=zh jK;have HRESW:=zh kC;have f5:=jE jK 5;have r0:=jE kC 0;have r1:=jE kC 1;have r2:=jE kC 2;have r3:=jE kC 3;have r4:=jE kC 4;have r5:=jE kC 5;have d0:=jA jK 0 _ rfl;have d1:=jA jK 1 _ rfl;have d2:=jA jK 2 _ rfl;have d3:=jA jK 3 _ rfl;have d4:=jA jK 4 _ rfl;have d5:=jA jK 5 _ rfl;have z0:=jA kC 0 _ rfl;have z1:=jA kC 1 _ rfl;have z2:=jA kC 2 _ rfl;have z3:=jA kC 3 _ rfl;have z4:=jA kC 4 _ rfl;have z5:=jA kC 5 _ rfl;have hne:¬g=N+1:=(by have:=hgN.out;omega);have hne2:¬N+1=g:=(by have:=hgN.out;omega);obtain⟨ga,gc,rfl,hz1,hz2,hz3⟩:=HE.1.form;obtain⟨L,hL⟩:∃L,(kF jZ left l).1=L:=⟨_,rfl⟩;have hT:=fA wr g (N+1) (.int .i64 k) (.int .i64 n) (.int .u64 u) (.string s2) (.slice va keys2.length vc) (.slice ga (kF jZ left l).1.length gc) (.slice ga (kF jZ left l).1.length gc);have hWW:Moved (fun q=>q=rb) w wr:=(Moved.of_grew HG3.out).trans' HM.out;have hMW:Moved (fun q=>q=rb) w (yX (wr.setCell ⟨g,5,none⟩ (.slice ga (kF jZ left l).1.length gc)) (N+1) (.int .i64 k) (.int .i64 n) (.int .u64 u) (.string s2) (.slice va keys2.length vc) (.slice ga (kF jZ left l).1.length gc)):=hWW.trans hT (fun j hj e=>by have h1:=HN.out;have h2:=hgN.out;rcases e with rfl | rfl<;>omega);have hkvW:zV wr (N+2) (.slice va keys2.length vc) keys2:=Moved.owns HM.out HKV.out (fun q hq e=>by have:=(World.ownsRow.lt HKV.out q hq).1;have:=hrbN.out;omega);have hrbW:=hT.heap HE.2.2 (fun e=>by have:=hgN.out;have:=hrbN.out;omega)
    have hfin:qJ (yX (wr.setCell ⟨g,5,none⟩ (.slice ga (kF jZ left l).1.length gc)) (N+1) (.int .i64 k) (.int .i64 n) (.int .u64 u) (.string s2) (.slice va keys2.length vc) (.slice ga (kF jZ left l).1.length gc)) w.heap.size (.mk k n u s2 keys2 (kF jZ left l).1) (.agg #[.int .i64 k,.int .i64 n,.int .u64 u,.string s2,.slice va keys2.length vc,.slice ga (kF jZ left l).1.length gc]) (JP w (yX (wr.setCell ⟨g,5,none⟩ (.slice ga (kF jZ left l).1.length gc)) (N+1) (.int .i64 k) (.int .i64 n) (.int .u64 u) (.string s2) (.slice va keys2.length vc) (.slice ga (kF jZ left l).1.length gc))):=by
     have h1:=HN.out;have h2:=hgN.out;have h3:g < w3.heap.size:=(Array.getElem?_eq_some_iff.1 K6.out).1;have h4:N+1 < w3.heap.size:=(Array.getElem?_eq_some_iff.1 HB2'.out).1;refine KK.tree (((HE.1.wider (T:=fun q=>q=rb∨(q=g∨q=N+1)) (fun _ h=>.inl h)).kept hT (fun q hq=>?_) (fun _ h=>.inr h))) ⟨HB.out.1,HB.out.2.1,HB.out.2.2.1,hsl2.out,hkz2.out⟩ HG3.out.size ?_ (fun q hq=>(World.ownsRow.lt HKV.out q hq).2)
     ·rcases hq with rfl|rfl<;>omega
     ·exact zb21
    have HFIN:Hid (qJ (yX (wr.setCell ⟨g,5,none⟩ (.slice ga (kF jZ left l).1.length gc)) (N+1) (.int .i64 k) (.int .i64 n) (.int .u64 u) (.string s2) (.slice va keys2.length vc) (.slice ga (kF jZ left l).1.length gc)) w.heap.size (vT jZ left (.mk k n u s keys l)).1 (.agg #[.int .i64 k,.int .i64 n,.int .u64 u,.string s2,.slice va keys2.length vc,.slice ga (kF jZ left l).1.length gc]) (JP w (yX (wr.setCell ⟨g,5,none⟩ (.slice ga (kF jZ left l).1.length gc)) (N+1) (.int .i64 k) (.int .i64 n) (.int .u64 u) (.string s2) (.slice va keys2.length vc) (.slice ga (kF jZ left l).1.length gc))) ∧
     Moved (fun q=>q=rb) w (yX (wr.setCell ⟨g,5,none⟩ (.slice ga (kF jZ left l).1.length gc)) (N+1) (.int .i64 k) (.int .i64 n) (.int .u64 u) (.string s2) (.slice va keys2.length vc) (.slice ga (kF jZ left l).1.length gc))∧(yX (wr.setCell ⟨g,5,none⟩ (.slice ga (kF jZ left l).1.length gc)) (N+1) (.int .i64 k) (.int .i64 n) (.int .u64 u) (.string s2) (.slice va keys2.length vc) (.slice ga (kF jZ left l).1.length gc)).heap[rb]? = some (fB (vT jZ left (.mk k n u s keys l)).2 jZ)):=by
     show _∧_∧_;refine⟨?_,hMW,?_⟩
     ·simp only[vT];rw[HK2.out,HSS.out];exact hfin
     ·simp only[vT];rw[HE.2.1];exact hrbW
    clear hT hMW hWW hfin hkvW hrbW hend HE jK kC hz1 hz2 hz3;rw[hL] at *;by_cases hlt:kk < l.length
    ·obtain rfl:lf=0:=(by omega);clear hgo;go_wp2;refine bodyPost_ret (v:=.agg #[.int .i64 k,.int .i64 n,.int .u64 u,.string s2,.slice va keys2.length vc,.slice ga L.length gc]) (by simp[results,results52,go_sem,z0,z1,z2,z3,z4,z5,hne,hne2]) rfl ?_;exact⟨_,rfl,HFIN.out⟩
    ·clear hgo;have hge:¬(kk:Int) < l.length:=(by omega);go_wp2;refine bodyPost_ret (v:=.agg #[.int .i64 k,.int .i64 n,.int .u64 u,.string s2,.slice va keys2.length vc,.slice ga L.length gc]) (by simp[results,results52,go_sem,z0,z1,z2,z3,z4,z5,hne,hne2]) rfl ?_;exact⟨_,rfl,HFIN.out⟩
theorem iD (x y:ByteArray):(x.toList == y.toList)=decide (x=y):=by
 rw[Bool.eq_iff_iff,beq_iff_eq,decide_eq_true_eq,ByteArray.toList_eq,ByteArray.toList_eq];exact⟨fun h=>bytes_inj h,fun h=>by rw[h]⟩
theorem pS (nodes jZ:Nat) (hn1:1≤nodes) (hn:nodes≤4096) (hlong:jZ≤1000) (t:Tr) (v:Value) (w:World) (h:jM w t v) :
 Calls prog 22 #[v,.int .i64 nodes,.int .i64 jZ] w fun r w'=>∃v',r=.returned v'∧qJ w' w.heap.size (vT jZ (nodes - 1) t).1 v' (JP w w')∧jD w w':=by
 have HNA:=zh h;obtain⟨k,n,u,s,a4,n4,c4,a5,n5,c5,rfl⟩:=h.node6;clear h;obtain⟨p,rfl⟩:∃p,nodes=p+1:=⟨nodes - 1,by omega⟩;go_enter func22,ntmps22;go_wp2_with fail;have hb2:=heap_alloc_new (w.alloc (.cells #[.int .i64 k,.int .i64 n,.int .u64 u,.string s,.slice a4 n4 c4,.slice a5 n5 c5] 26)) (.cells #[.int .i64 0,.int .i64 0,.int .u64 0,.string ⟨#[]⟩,.slice none 0 0,.slice none 0 0] 26);have hg2:=((jD.refl w).alloc (.cells #[.int .i64 k,.int .i64 n,.int .u64 u,.string s,.slice a4 n4 c4,.slice a5 n5 c5] 26)).alloc (.cells #[.int .i64 0,.int .i64 0,.int .u64 0,.string ⟨#[]⟩,.slice none 0 0,.slice none 0 0] 26);have hs2:((w.alloc (.cells #[.int .i64 k,.int .i64 n,.int .u64 u,.string s,.slice a4 n4 c4,.slice a5 n5 c5] 26)).alloc (.cells #[.int .i64 0,.int .i64 0,.int .u64 0,.string ⟨#[]⟩,.slice none 0 0,.slice none 0 0] 26)).heap.size=w.heap.size+1+1:=by rw[World.size_alloc,World.size_alloc]
 rw[World.size_alloc] at hb2;generalize ((w.alloc (.cells #[.int .i64 k,.int .i64 n,.int .u64 u,.string s,.slice a4 n4 c4,.slice a5 n5 c5] 26)).alloc (.cells #[.int .i64 0,.int .i64 0,.int .u64 0,.string ⟨#[]⟩,.slice none 0 0,.slice none 0 0] 26))=w2 at *;have hb3:=heap_alloc_new w2 (.cells #[.int .i64 p,.int .i64 jZ] 82);have hg3:=(jD.refl w2).alloc (.cells #[.int .i64 p,.int .i64 jZ] 82);have hs3:(w2.alloc (.cells #[.int .i64 p,.int .i64 jZ] 82)).heap.size=w2.heap.size+1:=World.size_alloc _ _;rw[hs2] at hb3 hs3;generalize (w2.alloc (.cells #[.int .i64 p,.int .i64 jZ] 82))=w3 at *;have HB2:=zh (hg3.heap hb2);have HG3:=zh (hg2.trans hg3);obtain⟨N,hN⟩:∃N,w.heap.size=N:=⟨_,rfl⟩;rw[hN] at hb3 HB2 hs3⊢;have HN:=zh hN;have HS3:=zh hs3;have hroom:w3.heap[N+1+1]? = some (fB p jZ):=hb3;clear hb2 hb3 hg2 hg3 hs2 hs3 hN;refine (sY jZ hlong w (N+1+1) (by have:=HN.out;omega) t.size t (Nat.le_refl _) _ _ p zo HNA.out HG3.out hroom).mono ?_;rintro r w4 ⟨v',rfl,ho,hm,_⟩;obtain⟨yk,yn,yu,ys,ya4,yn4,yc4,ya5,yn5,yc5,rfl⟩:=ho.node6;have kC:=hm.heap HB2.out zo;have r0:=jE kC 0;have r1:=jE kC 1;have r2:=jE kC 2;have r3:=jE kC 3;have r4:=jE kC 4;have r5:=jE kC 5;have z0:=jA kC 0 _ rfl;have z1:=jA kC 1 _ rfl;have z2:=jA kC 2 _ rfl;have z3:=jA kC 3 _ rfl;have z4:=jA kC 4 _ rfl;have z5:=jA kC 5 _ rfl;have hst:=vQ w4 (N+1) (.int .i64 yk) (.int .i64 yn) (.int .u64 yu) (.string ys) (.slice ya4 yn4 yc4) (.slice ya5 yn5 yc5);have hGW:jD w w4:=Moved.fresh HG3.out hm (fun g h=>by have:=HN.out;omega);have hGF:jD w (yX w4 (N+1) (.int .i64 yk) (.int .i64 yn) (.int .u64 yu) (.string ys) (.slice ya4 yn4 yc4) (.slice ya5 yn5 yc5)):=Moved.fresh hGW hst (fun g h=>by have:=HN.out;omega);have hfin:=((ho.kept hst (fun g hg e=>by have h1:=HS3.out;have h2:=hg.1;omega)).base (B':=w.heap.size) HG3.out.size).mono (T:=JP w (yX w4 (N+1) (.int .i64 yk) (.int .i64 yn) (.int .u64 yu) (.string ys) (.slice ya4 yn4 yc4) (.slice ya5 yn5 yc5))) (fun g hg=>⟨Nat.le_trans HG3.out.size hg.1,Nat.lt_of_lt_of_le hg.2 hst.size⟩);have HFIN:=zh (And.intro hfin hGF);clear hst hGW hGF hfin ho hm kC hroom;go_wp2;refine bodyPost_ret (v:=.agg #[.int .i64 yk,.int .i64 yn,.int .u64 yu,.string ys,.slice ya4 yn4 yc4,.slice ya5 yn5 yc5]) (by simp[results,results22,go_sem,z0,z1,z2,z3,z4,z5]) rfl ?_;exact⟨_,rfl,by simpa using HFIN.out.1,HFIN.out.2⟩
end Go.Proofs.YtdjoffgkndncfaaGreat
