/-
  Texts of the proof.
-/
import Derived.Test.YtdjoffgkndncfaaGreatDTurnedPAF
import Derived.Test.YtdjoffgkndncfaaGreatDTurnedPAD
set_option linter.unusedVariables false
set_option linter.unusedSimpArgs false
set_option maxRecDepth 100000
namespace Go.Proofs.YtdjoffgkndncfaaGreat
open Go.Proofs.Tryz
open Go Go.ChangeShapes Go.WideShapes Go.ChangeAt Go.RowKit Go.Joins Go.Deep
theorem jA {w:World} {p:Nat} {cs:Array Value} {t:TypeId} (h:w.heap[p]? = some (.cells cs t (0,0))) (k:Nat) (v:Value) (hv:cs[k]? = some v):w.cell? ⟨p,k,none⟩=some v:=by
 rw[cell_of_row w p k _ _ _ h];exact hv
def k7:Value:=.agg #[.int .i64 0,.int .i64 0,.int .u64 0,.string ⟨#[]⟩,.slice none 0 0,.slice none 0 0]
def qY:Value→List Value
 | .agg cs=>cs.toList
 | _=>[]
def Y9 (v:Value):Prop:=∃(k n u:Int) (s:ByteArray) (a4:Option Addr) (n4 c4:Nat) (a5:Option Addr) (n5 c5:Nat),v=.agg #[.int .i64 k,.int .i64 n,.int .u64 u,.string s,.slice a4 n4 c4,.slice a5 n5 c5]
theorem Tryz.infoNode:(Tryz.prog.info? 26).map (fun i=>(i.zero,i.size,i.bytes))=some (some k7,6,88):=by kernel_rfl
theorem eK:∃i0,Tryz.prog.info? 26=some i0∧i0.zero=some k7∧i0.size=6∧i0.bytes=88:=by
 have h:=Tryz.infoNode
 cases hq:Tryz.prog.info? 26 with
 | none=>simp[hq] at h
 | some i=>simp[hq] at h;exact⟨i,rfl,h.1,h.2.1,h.2.2⟩
theorem Tryz.infoStr:(Tryz.prog.info? 9).map (fun i=>(i.zero,i.size,i.bytes))=some (some (.string ⟨#[]⟩),1,16):=by kernel_rfl
theorem cD:∃i0,Tryz.prog.info? 9=some i0∧i0.zero=some (.string ⟨#[]⟩)∧i0.size=1∧i0.bytes=16:=by
 have h:=Tryz.infoStr
 cases hq:Tryz.prog.info? 9 with
 | none=>simp[hq] at h
 | some i=>simp[hq] at h;exact⟨i,rfl,h.1,h.2.1,h.2.2⟩
theorem VY {v:Value} (h:Y9 v):(qY v).length=6:=by
 obtain⟨k,n,u,s,a4,n4,c4,a5,n5,c5,rfl⟩:=h;rfl
theorem sR {v:Value} (h:Y9 v):∀u∈qY v,u.oneCell'=true:=by
 obtain⟨k,n,u,s,a4,n4,c4,a5,n5,c5,rfl⟩:=h;intro x hx;simp only[qY,List.mem_cons,List.not_mem_nil,or_false] at hx;rcases hx with rfl|rfl|rfl|rfl|rfl|rfl<;>rfl
theorem jY {w:World} {B:Nat} {e:TypeId} {size:Nat} {v:Value} {n:Nat} {xs:List Value} (h:w.ownsRow B e size v n xs):∃a c,v=.slice a n c∧n≤c∧kV c∧(a=none→c=0):=by
 rcases h.2 with ⟨rfl,hn⟩|⟨g,cap,cur,rfl,_,_,hn,hm,_⟩
 ·exact⟨none,0,by rw[hn],by omega,by unfold kV;omega,fun _=>rfl⟩
 ·exact⟨_,cap,rfl,hn,by unfold maxLen at hm;exact hm,(fun h=>by cases h)⟩
theorem JL {w:World} {B B':Nat} {e:TypeId} {size:Nat} {v:Value} {n:Nat} {xs:List Value} (h:w.ownsRow B e size v n xs) (hb:B'≤B):w.ownsRow B' e size v n xs:=by
 obtain⟨h1,h2⟩:=h;refine⟨h1,?_⟩;rcases h2 with h2|⟨g,cap,cur,hv,hg,r⟩
 ·exact .inl h2
 ·exact .inr ⟨g,cap,cur,hv,by omega,r⟩
theorem zS {w w':World} {B:Nat} {e:TypeId} {size:Nat} {v:Value} {n:Nat} {xs:List Value} (h:w.ownsRow B e size v n xs) (hg:jD w w'):w'.ownsRow B e size v n xs:=Moved.owns (Moved.of_grew (S:=fun _=>False) hg) h (fun _ _ h=>h)
def qA (w:World) (B:Nat) (v:Value) (vs:List Value):Prop:=w.ownsRow B 26 6 v vs.length (vs.flatMap qY)∧∀x∈vs,Y9 x
def zZ (w:World) (B:Nat) (v:Value) (ss:List ByteArray):Prop:=w.ownsRow B 9 1 v ss.length (ss.map Value.string)
theorem qA.nil (w:World) (B:Nat):qA w B (.slice none 0 0) []:=⟨World.ownsRow_nil _ _ _ _,by simp⟩
theorem zZ.nil (w:World) (B:Nat):zZ w B (.slice none 0 0) []:=World.ownsRow_nil _ _ _ _
theorem qA.grew {w w':World} {B:Nat} {v:Value} {vs:List Value} (h:qA w B v vs) (hg:jD w w'):qA w' B v vs:=⟨zS h.1 hg,h.2⟩
theorem zZ.grew {w w':World} {B:Nat} {v:Value} {ss:List ByteArray} (h:zZ w B v ss) (hg:jD w w'):zZ w' B v ss:=zS h hg
theorem mL (g j:Nat):(⟨g,0,none⟩:Addr).add j=⟨g,0+j,none⟩:=dZ _ g 0 j rfl
theorem zZ.strs {w:World} {B:Nat} {v:Value} {ss:List ByteArray} (h:zZ w B v ss) (hz:∀s∈ss,kV s.size):zH w v ss:=by
 obtain⟨a,c,rfl,h1,h2,h3⟩:=jY h;refine⟨a,c,rfl,h1,h2,h3,fun i s hs=>⟨hz s (List.mem_of_getElem? hs),?_⟩⟩;rcases h.2 with ⟨e,hn⟩|⟨g,cap,cur,e,_⟩
 ·have:ss=[]:=List.length_eq_zero_iff.1 hn;subst this;simp at hs
 ·cases e;have:=World.ownsRow.cells h (g:=g) rfl i (.string s) (by simp[hs]);rw[mL] at this;exact⟨g,0,rfl,this⟩
theorem KA {vs:List Value} (h6:∀x∈vs,Y9 x) {i:Nat} {x:Value} (hx:vs[i]? = some x) (j:Nat) (hj:j < 6):(vs.flatMap qY)[i*6+j]? = (qY x)[j]? := by
 induction vs generalizing i with
 | nil=>simp at hx
 | cons y r ih=>
  have hy:=VY (h6 y zp2);rw[List.flatMap_cons]
  cases i with
  | zero=>
   simp at hx;subst hx;rw[List.getElem?_append_left zo];simp
  | succ i=>
   rw[List.getElem?_append_right zo,hy,show (i+1)*6+j - 6=i*6+j by omega];exact ih (fun x hx=>h6 x (by simp[hx])) gT
theorem qA.rows {w:World} {B:Nat} {v:Value} {vs:List Value} (h:qA w B v vs):vF w v vs:=by
 obtain⟨hr,h6⟩:=h;obtain⟨a,c,rfl,h1,h2,h3⟩:=jY hr;refine⟨a,c,rfl,h1,h2,h3,fun i x hx=>?_⟩;rcases hr.2 with ⟨e,hn⟩|⟨g,cap,cur,e,_⟩
 ·have:vs=[]:=List.length_eq_zero_iff.1 hn;subst this;simp at hx
 ·cases e;have hc:=World.ownsRow.cells hr (g:=g) rfl;have hf:=KA h6 hx;obtain⟨k,n,u,s,a4,n4,c4,a5,n5,c5,rfl⟩:=h6 x (List.mem_of_getElem? hx);have q:=fun j hj u (hu:(qY _)[j]? = some u)=>hc (i*6+j) u ((hf j hj).trans hu);have q0:=q 0 zo _ rfl;have q1:=q 1 zo _ rfl;have q2:=q 2 zo _ rfl;have q3:=q 3 zo _ rfl;have q4:=q 4 zo _ rfl;have q5:=q 5 zo _ rfl;rw[mL] at q0 q1 q2 q3 q4 q5;exact⟨g,0,rfl,_,_,_,_,_,_,rfl,q0,by simpa [Nat.add_assoc] using q1,by simpa [Nat.add_assoc] using q2,by simpa [Nat.add_assoc] using q3,by simpa [Nat.add_assoc] using q4,by simpa [Nat.add_assoc] using q5⟩
def rowN (v:Value):Obj:=.cells (qY v).toArray 26 (0,0)
theorem ZK {ops:Array Oper} {rest:List Oper} {o:Oper} {a:Act} {w:World} {Q:Exit→Act→World→Prop} (hgd:o.guard=none) (s x:Operand)
 (ho:o.op=.call {callee:=.builtin .append,args:=#[s,x],argTypes:=#[24,24]}) (B:Nat) (v:Value) (vs:List Value) (hs:a.eval s=v) (j4:qA w B v vs)
 (g c:Nat) (y:Value) (hx:a.eval x=.slice (some ⟨g,0,none⟩) 1 c) (hg:w.heap[g]? = some (rowN y)) (h6:Y9 y) (kN:vs.length+1≤1048576) (hB:B≤w.heap.size)
 (h:∀v' w',qA w' B v' (vs++[y])→w.grownBy w' v.ownBlock→yQ w v.ownBlock v'.ownBlock→wpList prog ops Q rest (a.put o.dst v') w'):wpList prog ops Q (o::rest) a w:=by
 obtain⟨i0,hi,hz0,hz1,hz2⟩:=eK
 have hnews:∀j u,(qY y)[j]? = some u→w.cell? ((⟨g,0,none⟩:Addr).add j)=some u:=by
  intro j u hj;rw[mL,cell_of_row w g (0+j) _ _ _ hg];simpa using hj
 obtain⟨v',w',hr,h2,h3,h4⟩:=vB (P:=prog) w B 24 o.type 26 i0 k7 6 88 underlying24 hi hz0 hz1 hz2 rfl zd v vs.length _ j4.1 ⟨g,0,none⟩ 1 c (qY y) (by rw[VY h6]) hnews (sR h6) zp9 zo hB;refine wpList_plain hgd fun _ hK=>Lib.wp_append_run w s x 24 24 ho v _ hs hx v' w' hr (hK _ _ (h v' w' ⟨?_,?_⟩ h3 h4))
 ·rw[List.length_append,List.flatMap_append];simpa using h2
 ·intro x hx;rcases List.mem_append.1 hx with hx|hx
  ·exact j4.2 x hx
  ·simp at hx;subst hx;exact h6
theorem ZL {ops:Array Oper} {rest:List Oper} {o:Oper} {a:Act} {w:World} {Q:Exit→Act→World→Prop} (hgd:o.guard=none) (s x:Operand)
 (ho:o.op=.call {callee:=.builtin .append,args:=#[s,x],argTypes:=#[23,23]}) (B:Nat) (v:Value) (ss:List ByteArray) (hs:a.eval s=v) (j4:zZ w B v ss)
 (sv:Value) (l2:List ByteArray) (hx:a.eval x=sv) (hsv:zH w sv l2) (kN:ss.length+l2.length≤1099511627776) (hB:B≤w.heap.size)
 (h:∀v' w',zZ w' B v' (ss++l2)→w.grownBy w' v.ownBlock→yQ w v.ownBlock v'.ownBlock→wpList prog ops Q rest (a.put o.dst v') w'):wpList prog ops Q (o::rest) a w:=by
 obtain⟨i0,hi,hz0,hz1,hz2⟩:=cD;obtain⟨sa,cap,rfl,_,_,zG,hc⟩:=hsv
 cases sa with
 | none=>
  have h0:l2=[]:=by
   cases l2 with
   | nil=>rfl
   | cons y r=>obtain⟨_,b,off,e,_⟩:=hc 0 y rfl;cases e
  subst h0;have:=zG rfl;subst this;refine wpList_append_own_none hgd s x 23 ho B 9 i0 1 underlying23 hi v ss.length _ hs j4 hx ?_;exact h v w zp23 ⟨rfl,rfl,rfl,Nat.le_refl _,fun _ _ _=>rfl⟩ (yQ.refl _ _)
 | some ad=>
  have hnews:∀j u,(l2.map Value.string)[j]? = some u→w.cell? (ad.add j)=some u:=by
   intro j u hj;rw[List.getElem?_map] at hj
   cases hq:l2[j]? with
   | none=>rw[hq] at hj;cases hj
   | some s=>
    rw[hq] at hj;obtain⟨_,b,off,e,j7⟩:=hc j s hq;cases e;simp at hj;subst hj;rw[dZ _ b off j rfl];exact j7
  obtain⟨v',w',hr,h2,h3,h4⟩:=vB (P:=prog) w B 23 o.type 9 i0 (.string ⟨#[]⟩) 1 16 underlying23 hi hz0 hz1 hz2 rfl zd v ss.length _ j4 ad l2.length cap (l2.map Value.string) zp2 hnews (by intro u hu;obtain⟨s,_,rfl⟩:=List.mem_map.1 hu;rfl) zp9 zo hB;refine wpList_plain hgd fun _ hK=>Lib.wp_append_run w s x 23 23 ho v _ hs hx v' w' hr (hK _ _ (h v' w' ?_ h3 h4));unfold zZ;rw[List.length_append,List.map_append];exact h2
theorem BM {w wr w':World} {e:TypeId} {size:Nat} {v:Value} {n:Nat} {xs:List Value} (h:wr.ownsRow w.heap.size e size v n xs) (hg:jD w wr) (hgr:wr.grownBy w' v.ownBlock):jD w w':=by
 have hgr2:Moved (fun k=>some k=v.ownBlock) wr w':=Moved.of_grown hgr;refine⟨hgr2.os.trans hg.os,hgr2.tape.trans hg.tape,hgr2.output.trans hg.output,Nat.le_trans hg.size hgr2.size,fun k hk=>?_⟩;refine (hgr2.block k (Nat.lt_of_lt_of_le hk hg.size) fun e=>?_).trans (hg.block k hk);rcases h.2 with ⟨rfl,hn⟩|⟨g,cap,cur,rfl,hb,_,_⟩
 ·cases e
 ·have:k=g:=by injection e
  omega
theorem oP (w:World) (s:ByteArray) (hs:kV s.size):zH (w.alloc (.cells #[.string s] 9)) (.slice (some ⟨w.heap.size,0,none⟩) 1 1) [s]:=by
 have h:=heap_alloc_new w (.cells #[.string s] 9);refine⟨_,1,rfl,by simp,by unfold kV;omega,(fun h=>by cases h),fun i y hy=>?_⟩;have hi:i=0:=by have:=(List.getElem?_eq_some_iff.1 hy).1;simp at this;omega
 subst hi;simp at hy;subst hy;exact⟨hs,_,_,rfl,jA h 0 _ rfl⟩
/-! ### strings -/
mutual
def qQ (w:World) (B:Nat):Tr→Value→(Nat→Prop)→Prop
 | .mk k n u s keys l,v,S=>(kU k∧kU n∧qX u∧kV s.size∧∀x∈keys,kV x.size)∧∃kv lv vs S',v=.agg #[.int .i64 k,.int .i64 n,.int .u64 u,.string s,kv,lv] ∧
  zZ w B kv keys∧qA w B lv vs ∧
  (∀g,kv.ownBlock=some g→S g∧¬S' g)∧(∀g,lv.ownBlock=some g→S g∧¬S' g)∧(∀g,kv.ownBlock=some g→lv.ownBlock≠some g)∧(∀g,S' g→S g)∧kW w B l vs S'
def kW (w:World) (B:Nat):List Tr→List Value→(Nat→Prop)→Prop
 | [],vs,_=>vs=[]
 | t::r,vs,S=>∃v vr S1 S2,vs=v::vr∧(∀g,S1 g→S g)∧(∀g,S2 g→S g)∧(∀g,S1 g→¬S2 g)∧qQ w B t v S1∧kW w B r vr S2
end
mutual
theorem qQ.kept {w w':World} {B:Nat} {R:Nat→Prop} (hm:Moved R w w'):∀{t:Tr} {v:Value} {S:Nat→Prop},qQ w B t v S→(∀g,S g→¬R g)→qQ w' B t v S
 | .mk k n u s keys l,v,S,⟨hb,kv,lv,vs,S',e,h1,h2,h3,h4,h5,h6,h7⟩,hd=>
  ⟨hb,kv,lv,vs,S',e,Moved.owns hm h1 (fun g hg=>hd g (h3 g hg).1),⟨Moved.owns hm h2.1 (fun g hg=>hd g (h4 g hg).1),h2.2⟩,h3,h4,h5,h6,kW.kept hm h7 (fun g hg=>hd g (h6 g hg))⟩
theorem kW.kept {w w':World} {B:Nat} {R:Nat→Prop} (hm:Moved R w w'):∀{l:List Tr} {vs:List Value} {S:Nat→Prop},kW w B l vs S→(∀g,S g→¬R g)→kW w' B l vs S
 | [],_,_,h,_=>h
 | t::r,_,S,⟨v,vr,S1,S2,e,h1,h2,h3,h4,h5⟩,hd=>⟨v,vr,S1,S2,e,h1,h2,h3,qQ.kept hm h4 (fun g hg=>hd g (h1 g hg)),kW.kept hm h5 (fun g hg=>hd g (h2 g hg))⟩
end
section
variable {w w':World} {B:Nat} {v:Value} {vs:List Value} {t:Tr} {l:List Tr} {S T:Nat→Prop}
theorem qQ.grew (h:qQ w B t v S) (hg:jD w w'):qQ w' B t v S:=h.kept (Moved.of_grew (S:=fun _=>False) hg) (fun _ _ h=>h)
theorem kW.grew (h:kW w B l vs S) (hg:jD w w'):kW w' B l vs S:=h.kept (Moved.of_grew (S:=fun _=>False) hg) (fun _ _ h=>h)
theorem qQ.mono (h:qQ w B t v S) (hS:∀g,S g→T g):qQ w B t v T:=by
 cases t;simp only[qQ] at h⊢;obtain⟨hb,kv,lv,vs,S',e,h1,h2,h3,h4,h5,h6,h7⟩:=h;exact⟨hb,kv,lv,vs,S',e,h1,h2,fun g hg=>⟨hS g (h3 g hg).1,(h3 g hg).2⟩,fun g hg=>⟨hS g (h4 g hg).1,(h4 g hg).2⟩,h5,fun g hg=>hS g (h6 g hg),h7⟩
theorem kW.mono (h:kW w B l vs S) (hS:∀g,S g→T g):kW w B l vs T:=by
 cases l with
 | nil=>exact h
 | cons t r=>
  simp only[kW] at h⊢;obtain⟨v,vr,S1,S2,e,h1,h2,h3,h4,h5⟩:=h;exact⟨v,vr,S1,S2,e,fun g hg=>hS g (h1 g hg),fun g hg=>hS g (h2 g hg),h3,h4,h5⟩
theorem qQ.node6 (h:qQ w B t v S):Y9 v:=by
 cases t;simp only[qQ] at h;obtain⟨_,kv,lv,vs,S',rfl,h1,h2,_⟩:=h;obtain⟨a4,c4,rfl,_⟩:=jY h1;obtain⟨a5,c5,rfl,_⟩:=jY h2.1;exact⟨_,_,_,_,_,_,_,_,_,_,rfl⟩
mutual
theorem qQ.node {w:World} {B:Nat}:∀{t:Tr} {v:Value} {S:Nat→Prop},qQ w B t v S→jO w t v
 | .mk k n u s keys l,v,S,⟨hb,kv,lv,vs,S',e,h1,h2,_,_,_,_,h7⟩=>⟨⟨hb.1,hb.2.1,hb.2.2.1,hb.2.2.2.1⟩,kv,lv,vs,e,h1.strs hb.2.2.2.2,h2.rows,kW.kids h7⟩
theorem kW.kids {w:World} {B:Nat}:∀{l:List Tr} {vs:List Value} {S:Nat→Prop},kW w B l vs S→y9 w l vs
 | [],_,_,h=>h
 | t::r,_,S,⟨v,vr,S1,S2,e,_,_,_,h4,h5⟩=>⟨v,vr,e,qQ.node h4,kW.kids h5⟩
end
theorem kW.length (h:kW w B l vs S):vs.length=l.length:=h.kids.length
theorem kW.app {l2:List Tr} {vs2:List Value} (h:kW w B l vs S) (h2:kW w B l2 vs2 T) (hd:∀g,S g→¬T g):kW w B (l++l2) (vs++vs2) (fun g=>S g∨T g):=by
 induction l generalizing vs S with
 | nil=>simp only[kW] at h;subst h;exact h2.mono (fun g=>.inr)
 | cons t r ih=>
  simp only[kW] at h;obtain⟨v,vr,S1,S2,rfl,h1,h2',h3,h4,h5⟩:=h;simp only[List.cons_append,kW];exact⟨v,vr++vs2,S1,fun g=>S2 g∨T g,rfl,fun g hg=>.inl (h1 g hg),fun g hg=>hg.imp (h2' g) id,fun g hg hh=>hh.elim (h3 g hg) (hd g (h1 g hg)),h4,ih h5 (fun g hg=>hd g (h2' g hg))⟩
theorem kW.one (h:qQ w B t v S):kW w B [t] [v] S:=by
 simp only[kW];exact⟨v,[],S,fun _=>False,rfl,fun _ h=>h,fun _ h=>h.elim,fun _ _ h=>h,h,rfl⟩
end
def K6 (w w':World) (g:Nat):Prop:=w.heap.size≤g∧g < w'.heap.size
mutual
theorem qQ.base {w:World} {B B':Nat} (hb:B'≤B):∀{t:Tr} {v:Value} {S:Nat→Prop},qQ w B t v S→qQ w B' t v S
 | .mk k n u s keys l,v,S,⟨hb0,kv,lv,vs,S',e,h1,h2,h3,h4,h5,h6,h7⟩=>⟨hb0,kv,lv,vs,S',e,JL h1 hb,⟨JL h2.1 hb,h2.2⟩,h3,h4,h5,h6,kW.base hb h7⟩
theorem kW.base {w:World} {B B':Nat} (hb:B'≤B):∀{l:List Tr} {vs:List Value} {S:Nat→Prop},kW w B l vs S→kW w B' l vs S
 | [],_,_,h=>h
 | t::r,_,S,⟨v,vr,S1,S2,e,h1,h2,h3,h4,h5⟩=>⟨v,vr,S1,S2,e,h1,h2,h3,qQ.base hb h4,kW.base hb h5⟩
end
/-! ### lists of strings -/
def KZ (R:Nat→Prop) (W w:World) (v:Value) (ts:List Tr):Prop:=
 ∃vs S,qA w W.heap.size v vs∧kW w W.heap.size ts vs S∧(∀g,S g→W.heap.size≤g∧g < w.heap.size∧v.ownBlock≠some g)∧Moved R W w
theorem KZ.start (R:Nat→Prop) (W:World):KZ R W W (.slice none 0 0) []:=
 ⟨[],fun _=>False,qA.nil _ _,rfl,fun _ h=>h.elim,Moved.refl _ _⟩
theorem KZ.form {R:Nat→Prop} {W w:World} {v:Value} {ts:List Tr} (h:KZ R W w v ts):∃a c,v=.slice a ts.length c∧ts.length≤c∧kV c∧(a=none→c=0):=by
 obtain⟨vs,S,h1,h2,_⟩:=h;have:=jY h1.1
 rwa [h2.length] at this
theorem KZ.step {R:Nat→Prop} {W wr w2 w3:World} {v v' xv:Value} {ts:List Tr} {x:Tr} (hR:∀g,R g→g < W.heap.size) (vs:List Value) (S:Nat→Prop) (h2:kW wr W.heap.size ts vs S) (h1:qA wr W.heap.size v vs)
 (h3:∀g,S g→W.heap.size≤g∧g < wr.heap.size∧v.ownBlock≠some g) (h4:Moved R W wr)
 (hx:qQ w2 wr.heap.size x xv (K6 wr w2)) (hm:Moved R wr w2) (o:Obj) (j4:qA w3 W.heap.size v' (vs++[xv])) (hgr:(w2.alloc o).grownBy w3 v.ownBlock) (hn:yQ (w2.alloc o) v.ownBlock v'.ownBlock):KZ R W w3 v' (ts++[x]):=by
 have hm3:Moved (fun k=>some k=v.ownBlock) (w2.alloc o) w3:=Moved.of_grown hgr;have hga:jD w2 (w2.alloc o):=(jD.refl w2).alloc o;have hlt:∀g,v.ownBlock=some g→W.heap.size≤g∧g < wr.heap.size:=fun g hg=>World.ownsRow.lt h1.1 g hg;have hs2:wr.heap.size≤w2.heap.size:=hm.size;have hs3:w2.heap.size≤(w2.alloc o).heap.size:=hga.size;have hs4:(w2.alloc o).heap.size≤w3.heap.size:=hm3.size;have hWr:W.heap.size≤wr.heap.size:=h4.size;have k1:kW w3 W.heap.size ts vs S:=((h2.kept hm (fun g hg hr=>by have:=(h3 g hg).1;have:=hR g hr;omega)).grew hga).kept hm3 (fun g hg e=>(h3 g hg).2.2 e.symm);have k2:qQ w3 W.heap.size x xv (K6 wr w2):=((hx.grew hga).kept hm3 (fun g hg e=>by have:=hlt g e.symm;have:=hg.1;omega)).base hWr;refine⟨vs++[xv],fun g=>S g∨K6 wr w2 g,j4,k1.app (kW.one k2) (fun g hg hh=>by have:=(h3 g hg).2.1;have:=hh.1;omega),fun g hg=>?_,?_⟩
 ·have hb:W.heap.size≤g∧g < w2.heap.size:=by
   rcases hg with hg|hg
   ·have:=h3 g hg;omega
   ·exact⟨Nat.le_trans hWr hg.1,hg.2⟩
  refine⟨hb.1,by omega,fun e=>?_⟩;rcases hn g e with e|e
  ·rcases hg with hg|hg
   ·exact (h3 g hg).2.2 e
   ·have:=hlt g e;have:=hg.1;omega
  ·omega
 ·exact ((h4.trans' hm).grew hga).trans hm3 fun j hj e=>by have:=hlt j e.symm;omega
theorem KZ.tree {R:Nat→Prop} {w0 W w:World} {v kv:Value} {ts:List Tr} {k n u:Int} {s:ByteArray} {keys:List ByteArray} (h:KZ R W w v ts) (hb:kU k∧kU n∧qX u∧kV s.size∧∀x∈keys,kV x.size)
 (h0:w0.heap.size≤W.heap.size) (hk:zZ w w0.heap.size kv keys) (hkW:∀g,kv.ownBlock=some g→g < W.heap.size) :
 qQ w w0.heap.size (.mk k n u s keys ts) (.agg #[.int .i64 k,.int .i64 n,.int .u64 u,.string s,kv,v]) (K6 w0 w):=by
 obtain⟨vs,S,h1,h2,h3,h4⟩:=h;simp only[qQ];refine⟨hb,kv,v,vs,S,rfl,hk,⟨JL h1.1 h0,h1.2⟩,fun g hg=>⟨?_,fun hs=>?_⟩,fun g hg=>⟨?_,fun hs=>(h3 g hs).2.2 hg⟩,fun g hg hg2=>?_,fun g hg=>?_,h2.base h0⟩
 ·have:=World.ownsRow.lt hk g hg;exact⟨this.1,this.2⟩
 ·have:=(h3 g hs).1;have:=hkW g hg;omega
 ·have:=World.ownsRow.lt h1.1 g hg;exact⟨by omega,this.2⟩
 ·have:=World.ownsRow.lt h1.1 g hg2;have:=hkW g hg;omega
 ·have:=h3 g hg;exact⟨by omega,this.2.1⟩
theorem KZ.kept {R T:Nat→Prop} {W w w':World} {v:Value} {ts:List Tr} (h:KZ R W w v ts) (hm:Moved T w w') (hT:∀g,T g→g < W.heap.size) (hRT:∀g,T g→R g):KZ R W w' v ts:=by
 obtain⟨vs,S,h1,h2,h3,h4⟩:=h;refine⟨vs,S,⟨Moved.owns hm h1.1 (fun g hg ht=>by have:=World.ownsRow.lt h1.1 g hg;have:=hT g ht;omega),h1.2⟩,h2.kept hm (fun g hg ht=>by have:=(h3 g hg).1;have:=hT g ht;omega),fun g hg=>?_,h4.trans hm (fun g _ ht=>hRT g ht)⟩;have:=h3 g hg;have:=hm.size;exact⟨by omega,by omega,(h3 g hg).2.2⟩
theorem KZ.wider {R T:Nat→Prop} {W w:World} {v:Value} {ts:List Tr} (h:KZ R W w v ts) (hRT:∀g,R g→T g):KZ T W w v ts:=by
 obtain⟨vs,S,h1,h2,h3,h4⟩:=h;exact⟨vs,S,h1,h2,h3,h4.mono (fun g _ hg=>hRT g hg)⟩
mutual
def Few:Tr→Prop | .mk _ _ _ _ keys l=>keys.length≤4096∧l.length≤4096∧FewL l
def FewL:List Tr→Prop | []=>True | t::r=>Few t∧FewL r
end
theorem FewL.mem {l:List Tr} (h:FewL l) {x:Tr} (hx:x∈l):Few x:=by
 induction l with
 | nil=>cases hx
 | cons t r ih=>
  simp only[FewL] at h;rcases List.mem_cons.1 hx with rfl|hx
  ·exact h.1
  ·exact ih h.2 hx
theorem K8 (w:World) (g:Nat) (a' b' c' d' e' f':Value) :
 Moved (fun k=>k=g) w ((((((w.setCell ⟨g,0,none⟩ a').setCell ⟨g,1,none⟩ b').setCell ⟨g,2,none⟩ c').setCell ⟨g,3,none⟩ d').setCell ⟨g,4,none⟩ e').setCell ⟨g,5,none⟩ f'):=
 Moved.setCell (S:=fun k=>k=g) (p:=⟨g,5,none⟩) (Moved.setCell (S:=fun k=>k=g) (p:=⟨g,4,none⟩) (Moved.setCell (S:=fun k=>k=g) (p:=⟨g,3,none⟩) (Moved.setCell (S:=fun k=>k=g) (p:=⟨g,2,none⟩) (Moved.setCell (S:=fun k=>k=g) (p:=⟨g,1,none⟩) (Moved.setCell (S:=fun k=>k=g) (p:=⟨g,0,none⟩) (Moved.refl _ w) (fun _=>rfl) _) (fun _=>rfl) _) (fun _=>rfl) _) (fun _=>rfl) _) (fun _=>rfl) _) (fun _=>rfl) _
abbrev KB (w:World) (g:Nat) (a' b' c' d' e' f':Value):World:=((((((w.setCell ⟨g,0,none⟩ a').setCell ⟨g,1,none⟩ b').setCell ⟨g,2,none⟩ c').setCell ⟨g,3,none⟩ d').setCell ⟨g,4,none⟩ e').setCell ⟨g,5,none⟩ f')
theorem oQ (w:World) (g r:Nat) (a b c d e f:Value) (x:Value):Moved (fun k=>k=g∨k=r) w (KB (w.setCell ⟨g,5,none⟩ x) r a b c d e f):=
 (Moved.setCell (S:=fun k=>k=g∨k=r) (p:=⟨g,5,none⟩) (Moved.refl _ w) (fun _=>.inl rfl) x).trans (K8 _ r a b c d e f) (fun _ _ h=>.inr h)
theorem Moved.fresh {S:Nat→Prop} {w0 w w':World} (hg:jD w0 w) (h:Moved S w w') (hS:∀g,S g→w0.heap.size≤g):jD w0 w':=
 Below.trans hg (h.below hg.size hS)
theorem jO.node6 {w:World} {t:Tr} {v:Value} (h:jO w t v):Y9 v:=by
 cases t;simp only[jO] at h;obtain⟨_,kv,lv,vs,rfl,⟨a4,c4,rfl,_⟩,⟨a5,c5,rfl,_⟩,_⟩:=h;exact⟨_,_,_,_,_,_,_,_,_,_,rfl⟩
theorem yT.get {w:World} {b o:Nat} {x0 x1 x2 x3 x4 x5:Value} (h:yT w b o (.agg #[x0,x1,x2,x3,x4,x5])) :
 w.cell? ⟨b,o,none⟩=some x0∧w.cell? ⟨b,o+1,none⟩=some x1∧w.cell? ⟨b,o+2,none⟩=some x2∧w.cell? ⟨b,o+3,none⟩=some x3∧w.cell? ⟨b,o+4,none⟩=some x4∧w.cell? ⟨b,o+5,none⟩=some x5:=by
 obtain⟨c0,c1,c2,c3,c4,c5,e,h⟩:=h;injection e with e;injection e with e;simp at e;obtain⟨rfl,rfl,rfl,rfl,rfl,rfl⟩:=e;exact h
theorem VG {w:World} {B:Nat} {e t:TypeId} {size n:Nat} {v:Value} {xs:List Value} (h:w.ownsRow B e size v n xs) {g:Nat} {cs:Array Value} (hg:w.heap[g]? = some (.cells cs t (0,0))) (he:e≠t):v.ownBlock≠some g:=by
 intro hv;rcases h.2 with ⟨rfl,_⟩|⟨g2,cap,cur,rfl,_,h2,_⟩
 ·cases hv
 ·have:g2=g:=by injection hv
  subst this;rw[hg] at h2;injection h2 with h2;injection h2 with _ h2;exact he h2.symm
theorem eL (x y:ByteArray):(x.toList == y.toList)=decide (x=y):=by
 rw[Bool.eq_iff_iff,beq_iff_eq,decide_eq_true_eq,ByteArray.toList_eq,ByteArray.toList_eq];exact⟨fun h=>bytes_inj h,fun h=>by rw[h]⟩
end Go.Proofs.YtdjoffgkndncfaaGreat
