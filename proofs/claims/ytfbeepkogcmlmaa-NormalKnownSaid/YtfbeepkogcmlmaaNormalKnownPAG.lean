/-
  Texts of the proof.
-/
import Derived.Test.YtfbeepkogcmlmaaNormalKnownPAE
import Derived.Test.YtfbeepkogcmlmaaNormalKnownPAF
set_option linter.unusedVariables false
set_option linter.unusedSimpArgs false
set_option maxHeartbeats 16000000
set_option maxRecDepth 100000
namespace Go.Proofs.Ytfbeepkogcmlmaa
open Go Go.ChangeShapes Go.WideShapes Go.ChangeAt Go.RowKit Go.Joins Go.Deep
theorem jA {w:World} {p:Nat} {cs:Array Value} {t:TypeId} (h:w.heap[p]? = some (.cells cs t (0,0))) (k:Nat) (v:Value) (hv:cs[k]? = some v):w.cell? ⟨p,k,none⟩=some v:=by
 rw[cell_of_row w p k _ _ _ h];exact hv
def j7:Value:=.agg #[.int .i64 0,.int .i64 0,.int .u64 0,.string ⟨#[]⟩,.slice none 0 0,.slice none 0 0]
def zK:Value→List Value
 | .agg cs=>cs.toList
 | _=>[]
def qX (v:Value):Prop:=∃(k n u:Int) (s:ByteArray) (a4:Option Addr) (n4 c4:Nat) (a5:Option Addr) (n5 c5:Nat),v=.agg #[.int .i64 k,.int .i64 n,.int .u64 u,.string s,.slice a4 n4 c4,.slice a5 n5 c5]
theorem Try.infoNode:(Try.prog.info? 26).map (fun i=>(i.zero,i.size,i.bytes))=some (some j7,6,88):=by kernel_rfl
theorem K4:∃i0,Try.prog.info? 26=some i0∧i0.zero=some j7∧i0.size=6∧i0.bytes=88:=by
 have h:=Try.infoNode
 cases hq:Try.prog.info? 26 with
 | none=>simp[hq] at h
 | some i=>simp[hq] at h;exact⟨i,rfl,h.1,h.2.1,h.2.2⟩
theorem Try.infoStr:(Try.prog.info? 9).map (fun i=>(i.zero,i.size,i.bytes))=some (some (.string ⟨#[]⟩),1,16):=by kernel_rfl
theorem VZ:∃i0,Try.prog.info? 9=some i0∧i0.zero=some (.string ⟨#[]⟩)∧i0.size=1∧i0.bytes=16:=by
 have h:=Try.infoStr
 cases hq:Try.prog.info? 9 with
 | none=>simp[hq] at h
 | some i=>simp[hq] at h;exact⟨i,rfl,h.1,h.2.1,h.2.2⟩
theorem vO {v:Value} (h:qX v):(zK v).length=6:=by
 obtain⟨k,n,u,s,a4,n4,c4,a5,n5,c5,rfl⟩:=h;rfl
theorem QX {v:Value} (h:qX v):∀u∈zK v,u.oneCell'=true:=by
 obtain⟨k,n,u,s,a4,n4,c4,a5,n5,c5,rfl⟩:=h
 intro x hx
 simp only[zK,List.mem_cons,List.not_mem_nil,or_false] at hx
 rcases hx with rfl|rfl|rfl|rfl|rfl|rfl<;>rfl
theorem jT {w:World} {B:Nat} {e:TypeId} {size:Nat} {v:Value} {n:Nat} {xs:List Value} (h:w.ownsRow B e size v n xs):∃a c,v=.slice a n c∧n≤c∧jI c∧(a=none→c=0):=by
 rcases h.2 with ⟨rfl,hn⟩|⟨g,cap,cur,rfl,_,_,hn,hm,_⟩
 ·exact⟨none,0,by rw[hn],by omega,by unfold jI;omega,fun _=>rfl⟩
 ·exact⟨_,cap,rfl,hn,by unfold maxLen at hm;exact hm,(fun h=>by cases h)⟩
theorem kX {w:World} {B B':Nat} {e:TypeId} {size:Nat} {v:Value} {n:Nat} {xs:List Value} (h:w.ownsRow B e size v n xs) (hb:B'≤B):w.ownsRow B' e size v n xs:=by
 obtain⟨h1,h2⟩:=h
 refine⟨h1,?_⟩
 rcases h2 with h2|⟨g,cap,cur,hv,hg,r⟩
 ·exact .inl h2
 ·exact .inr ⟨g,cap,cur,hv,by omega,r⟩
theorem qC {w w':World} {B:Nat} {e:TypeId} {size:Nat} {v:Value} {n:Nat} {xs:List Value} (h:w.ownsRow B e size v n xs) (hg:jC w w'):w'.ownsRow B e size v n xs:=Moved.owns (Moved.of_grew (S:=fun _=>False) hg) h (fun _ _ h=>h)
def kK (w:World) (B:Nat) (v:Value) (vs:List Value):Prop:=w.ownsRow B 26 6 v vs.length (vs.flatMap zK)∧∀x∈vs,qX x
def kD (w:World) (B:Nat) (v:Value) (ss:List ByteArray):Prop:=w.ownsRow B 9 1 v ss.length (ss.map Value.string)
theorem kK.nil (w:World) (B:Nat):kK w B (.slice none 0 0) []:=⟨World.ownsRow_nil _ _ _ _,by simp⟩
theorem kD.nil (w:World) (B:Nat):kD w B (.slice none 0 0) []:=World.ownsRow_nil _ _ _ _
theorem kK.grew {w w':World} {B:Nat} {v:Value} {vs:List Value} (h:kK w B v vs) (hg:jC w w'):kK w' B v vs:=⟨qC h.1 hg,h.2⟩
theorem kD.grew {w w':World} {B:Nat} {v:Value} {ss:List ByteArray} (h:kD w B v ss) (hg:jC w w'):kD w' B v ss:=qC h hg
theorem add0 (g j:Nat):(⟨g,0,none⟩:Addr).add j=⟨g,0+j,none⟩:=YJ _ g 0 j rfl
theorem kD.strs {w:World} {B:Nat} {v:Value} {ss:List ByteArray} (h:kD w B v ss) (hz:∀s∈ss,jI s.size):kO w v ss:=by
 obtain⟨a,c,rfl,h1,h2,h3⟩:=jT h
 refine⟨a,c,rfl,h1,h2,h3,fun i s hs=>⟨hz s (List.mem_of_getElem? hs),?_⟩⟩
 rcases h.2 with ⟨e,hn⟩|⟨g,cap,cur,e,_⟩
 ·have:ss=[]:=List.length_eq_zero_iff.1 hn
  subst this;simp at hs
 ·cases e
  have:=World.ownsRow.cells h (g:=g) rfl i (.string s) (by simp[hs])
  rw[add0] at this
  exact⟨g,0,rfl,this⟩
theorem yU {vs:List Value} (h6:∀x∈vs,qX x) {i:Nat} {x:Value} (hx:vs[i]? = some x) (j:Nat) (hj:j < 6):(vs.flatMap zK)[i*6+j]? = (zK x)[j]? := by
 induction vs generalizing i with
 | nil=>simp at hx
 | cons y r ih=>
  have hy:=vO (h6 y (by simp))
  rw[List.flatMap_cons]
  cases i with
  | zero=>
   simp at hx;subst hx
   rw[List.getElem?_append_left (by omega)]
   simp
  | succ i=>
   rw[List.getElem?_append_right (by omega),hy,show (i+1)*6+j - 6=i*6+j by omega]
   exact ih (fun x hx=>h6 x (by simp[hx])) (by simpa using hx)
theorem kK.rows {w:World} {B:Nat} {v:Value} {vs:List Value} (h:kK w B v vs):yT w v vs:=by
 obtain⟨hr,h6⟩:=h
 obtain⟨a,c,rfl,h1,h2,h3⟩:=jT hr
 refine⟨a,c,rfl,h1,h2,h3,fun i x hx=>?_⟩
 rcases hr.2 with ⟨e,hn⟩|⟨g,cap,cur,e,_⟩
 ·have:vs=[]:=List.length_eq_zero_iff.1 hn
  subst this;simp at hx
 ·cases e
  have hc:=World.ownsRow.cells hr (g:=g) rfl
  have hf:=yU h6 hx
  obtain⟨k,n,u,s,a4,n4,c4,a5,n5,c5,rfl⟩:=h6 x (List.mem_of_getElem? hx)
  have q:=fun j hj u (hu:(zK _)[j]? = some u)=>hc (i*6+j) u ((hf j hj).trans hu)
  have q0:=q 0 (by omega) _ rfl
  have q1:=q 1 (by omega) _ rfl
  have q2:=q 2 (by omega) _ rfl
  have q3:=q 3 (by omega) _ rfl
  have q4:=q 4 (by omega) _ rfl
  have q5:=q 5 (by omega) _ rfl
  rw[add0] at q0 q1 q2 q3 q4 q5
  exact⟨g,0,rfl,_,_,_,_,_,_,rfl,q0,by simpa [Nat.add_assoc] using q1,by simpa [Nat.add_assoc] using q2,by simpa [Nat.add_assoc] using q3,by simpa [Nat.add_assoc] using q4,by simpa [Nat.add_assoc] using q5⟩
def rowN (v:Value):Obj:=.cells (zK v).toArray 26 (0,0)
theorem zL {ops:Array Oper} {rest:List Oper} {o:Oper} {a:Act} {w:World} {Q:Exit→Act→World→Prop} (hgd:o.guard=none) (s x:Operand)
 (ho:o.op=.call {callee:=.builtin .append,args:=#[s,x],argTypes:=#[24,24]}) (B:Nat) (v:Value) (vs:List Value) (hs:a.eval s=v) (kE:kK w B v vs)
 (g c:Nat) (y:Value) (hx:a.eval x=.slice (some ⟨g,0,none⟩) 1 c) (hg:w.heap[g]? = some (rowN y)) (h6:qX y) (kV:vs.length+1≤1048576) (hB:B≤w.heap.size)
 (h:∀v' w',kK w' B v' (vs++[y])→w.grownBy w' v.ownBlock→vW w v.ownBlock v'.ownBlock→wpList Try.prog ops Q rest (a.put o.dst v') w'):wpList Try.prog ops Q (o::rest) a w:=by
 obtain⟨i0,hi,hz0,hz1,hz2⟩:=K4
 have hnews:∀j u,(zK y)[j]? = some u→w.cell? ((⟨g,0,none⟩:Addr).add j)=some u:=by
  intro j u hj
  rw[add0,cell_of_row w g (0+j) _ _ _ hg]
  simpa using hj
 obtain⟨v',w',hr,h2,h3,h4⟩:=KG (P:=Try.prog) w B 24 o.type 26 i0 j7 6 88 Try.underlying24 hi hz0 hz1 hz2 rfl (by decide) v vs.length _ kE.1 ⟨g,0,none⟩ 1 c (zK y) (by rw[vO h6]) hnews (QX h6) (by unfold maxLen;omega) (by omega) hB
 refine wpList_plain hgd fun _ hK=>Lib.wp_append_run w s x 24 24 ho v _ hs hx v' w' hr (hK _ _ (h v' w' ⟨?_,?_⟩ h3 h4))
 ·rw[List.length_append,List.flatMap_append]
  simpa using h2
 ·intro x hx
  rcases List.mem_append.1 hx with hx|hx
  ·exact kE.2 x hx
  ·simp at hx;subst hx;exact h6
theorem yN {ops:Array Oper} {rest:List Oper} {o:Oper} {a:Act} {w:World} {Q:Exit→Act→World→Prop} (hgd:o.guard=none) (s x:Operand)
 (ho:o.op=.call {callee:=.builtin .append,args:=#[s,x],argTypes:=#[23,23]}) (B:Nat) (v:Value) (ss:List ByteArray) (hs:a.eval s=v) (kE:kD w B v ss)
 (sv:Value) (l2:List ByteArray) (hx:a.eval x=sv) (hsv:kO w sv l2) (kV:ss.length+l2.length≤1099511627776) (hB:B≤w.heap.size)
 (h:∀v' w',kD w' B v' (ss++l2)→w.grownBy w' v.ownBlock→vW w v.ownBlock v'.ownBlock→wpList Try.prog ops Q rest (a.put o.dst v') w'):wpList Try.prog ops Q (o::rest) a w:=by
 obtain⟨i0,hi,hz0,hz1,hz2⟩:=VZ
 obtain⟨sa,cap,rfl,_,_,zE,hc⟩:=hsv
 cases sa with
 | none=>
  have h0:l2=[]:=by
   cases l2 with
   | nil=>rfl
   | cons y r=>obtain⟨_,b,off,e,_⟩:=hc 0 y rfl;cases e
  subst h0
  have:=zE rfl
  subst this
  refine wpList_append_own_none hgd s x 23 ho B 9 i0 1 Try.underlying23 hi v ss.length _ hs kE hx ?_
  exact h v w (by rw[List.append_nil];exact kE) ⟨rfl,rfl,rfl,Nat.le_refl _,fun _ _ _=>rfl⟩ (vW.refl _ _)
 | some ad=>
  have hnews:∀j u,(l2.map Value.string)[j]? = some u→w.cell? (ad.add j)=some u:=by
   intro j u hj
   rw[List.getElem?_map] at hj
   cases hq:l2[j]? with
   | none=>rw[hq] at hj;cases hj
   | some s=>
    rw[hq] at hj
    obtain⟨_,b,off,e,zG⟩:=hc j s hq
    cases e
    simp at hj
    subst hj
    rw[YJ _ b off j rfl]
    exact zG
  obtain⟨v',w',hr,h2,h3,h4⟩:=KG (P:=Try.prog) w B 23 o.type 9 i0 (.string ⟨#[]⟩) 1 16 Try.underlying23 hi hz0 hz1 hz2 rfl (by decide) v ss.length _ kE ad l2.length cap (l2.map Value.string) (by simp) hnews (by intro u hu;obtain⟨s,_,rfl⟩:=List.mem_map.1 hu;rfl) (by unfold maxLen;omega) (by omega) hB
  refine wpList_plain hgd fun _ hK=>Lib.wp_append_run w s x 23 23 ho v _ hs hx v' w' hr (hK _ _ (h v' w' ?_ h3 h4))
  unfold kD
  rw[List.length_append,List.map_append]
  exact h2
theorem YZ {w wr w':World} {e:TypeId} {size:Nat} {v:Value} {n:Nat} {xs:List Value} (h:wr.ownsRow w.heap.size e size v n xs) (hg:jC w wr) (hgr:wr.grownBy w' v.ownBlock):jC w w':=by
 have hgr2:Moved (fun k=>some k=v.ownBlock) wr w':=Moved.of_grown hgr
 refine⟨hgr2.os.trans hg.os,hgr2.tape.trans hg.tape,hgr2.output.trans hg.output,Nat.le_trans hg.size hgr2.size,fun k hk=>?_⟩
 refine (hgr2.block k (Nat.lt_of_lt_of_le hk hg.size) fun e=>?_).trans (hg.block k hk)
 rcases h.2 with ⟨rfl,hn⟩|⟨g,cap,cur,rfl,hb,_,_⟩
 ·cases e
 ·have:k=g:=by injection e
  omega
theorem Y0 (w:World) (s:ByteArray) (hs:jI s.size):kO (w.alloc (.cells #[.string s] 9)) (.slice (some ⟨w.heap.size,0,none⟩) 1 1) [s]:=by
 have h:=heap_alloc_new w (.cells #[.string s] 9)
 refine⟨_,1,rfl,by simp,by unfold jI;omega,(fun h=>by cases h),fun i y hy=>?_⟩
 have hi:i=0:=by have:=(List.getElem?_eq_some_iff.1 hy).1;simp at this;omega
 subst hi
 simp at hy
 subst hy
 exact⟨hs,_,_,rfl,jA h 0 _ rfl⟩
/-! ### strings -/
def zT (s:ByteArray) (m:Nat):ByteArray:=s.extract 0 (min s.size m)
theorem q9 (s:ByteArray) (m:Nat):(zT s m).size=min s.size m:=by simp[zT]
theorem vP (w:World) (v:Value) (l:List ByteArray) (h:kO w v l) (hl:l.length≤1099511627776) :
 Calls Try.prog 40 #[v] w fun r w'=>∃v',r=.returned v'∧kD w' w.heap.size v' l∧jC w w':=by
 have HX:=zh h
 obtain⟨a,c,rfl,_,_,zE,_⟩:=h
 have kE:Hid (kD w w.heap.size (.slice none 0 0) []):=kD.nil _ _
 go_enter Try.func40,Try.ntmps40
 go_wp2_with (at_builtin;refine yN rfl _ _ rfl w.heap.size (.slice none 0 0) [] rfl kE.out _ l rfl HX.out (by simp;omega) (Nat.le_refl _) ?_;intro v' w3 hown2 hgr hqq;obtain⟨va2,vc2,rfl,_,_,_⟩:=jT hown2;have HO:=zh (And.intro hown2 hgr);clear hown2 hgr hqq)
 go_ret
 refine⟨_,rfl,by simpa using HO.out.1,?_⟩
 exact (Below.refl w.heap.size w).grown HO.out.2 (Nat.le_refl _) (fun k hk=>by cases hk)
theorem min_nat (a b:Nat):min (a:Int) (b:Int)=((min a b:Nat):Int):=by omega
theorem K5 (w:World) (s:ByteArray) (m:Nat) (hs:jI s.size) (hm:m≤1000) :
 Calls Try.prog 63 #[.string s,.int .i64 m] w fun r w'=>r=.returned (.string (zT s m))∧w=w':=by
 unfold jI at hs
 have h1:min (s.size:Int) (m:Int)=((min s.size m:Nat):Int):=min_nat _ _
 obtain⟨k,hk⟩:∃k:Nat,min s.size m=k:=⟨_,rfl⟩
 rw[hk] at h1
 have hks:k≤s.size:=by omega
 have hki:(k:Int)≤s.size:=by omega
 have HK:=zh hk
 clear hk
 go_enter Try.func63,Try.ntmps63
 go_wp2
 ·go_ret
  exact⟨by rw[zT,HK.out,show m=k by have:=HK.out;omega];rfl,rfl⟩
 ·go_ret
  exact⟨by rw[zT,HK.out,show k=s.size by have:=HK.out;omega];simp,rfl⟩
mutual
def jW (w:World) (B:Nat):Tr→Value→(Nat→Prop)→Prop
 | .mk k n u s keys l,v,S=>(jQ k∧jQ n∧j9 u∧jI s.size∧∀x∈keys,jI x.size)∧∃kv lv vs S',v=.agg #[.int .i64 k,.int .i64 n,.int .u64 u,.string s,kv,lv] ∧
  kD w B kv keys∧kK w B lv vs ∧
  (∀g,kv.ownBlock=some g→S g∧¬S' g)∧(∀g,lv.ownBlock=some g→S g∧¬S' g)∧(∀g,kv.ownBlock=some g→lv.ownBlock≠some g)∧(∀g,S' g→S g)∧j4 w B l vs S'
def j4 (w:World) (B:Nat):List Tr→List Value→(Nat→Prop)→Prop
 | [],vs,_=>vs=[]
 | t::r,vs,S=>∃v vr S1 S2,vs=v::vr∧(∀g,S1 g→S g)∧(∀g,S2 g→S g)∧(∀g,S1 g→¬S2 g)∧jW w B t v S1∧j4 w B r vr S2
end
mutual
theorem jW.kept {w w':World} {B:Nat} {R:Nat→Prop} (hm:Moved R w w'):∀{t:Tr} {v:Value} {S:Nat→Prop},jW w B t v S→(∀g,S g→¬R g)→jW w' B t v S
 | .mk k n u s keys l,v,S,⟨hb,kv,lv,vs,S',e,h1,h2,h3,h4,h5,h6,h7⟩,hd=>
  ⟨hb,kv,lv,vs,S',e,Moved.owns hm h1 (fun g hg=>hd g (h3 g hg).1),⟨Moved.owns hm h2.1 (fun g hg=>hd g (h4 g hg).1),h2.2⟩,h3,h4,h5,h6,j4.kept hm h7 (fun g hg=>hd g (h6 g hg))⟩
theorem j4.kept {w w':World} {B:Nat} {R:Nat→Prop} (hm:Moved R w w'):∀{l:List Tr} {vs:List Value} {S:Nat→Prop},j4 w B l vs S→(∀g,S g→¬R g)→j4 w' B l vs S
 | [],_,_,h,_=>h
 | t::r,_,S,⟨v,vr,S1,S2,e,h1,h2,h3,h4,h5⟩,hd=>⟨v,vr,S1,S2,e,h1,h2,h3,jW.kept hm h4 (fun g hg=>hd g (h1 g hg)),j4.kept hm h5 (fun g hg=>hd g (h2 g hg))⟩
end
section
variable {w w':World} {B:Nat} {v:Value} {vs:List Value} {t:Tr} {l:List Tr} {S T:Nat→Prop}
theorem jW.grew (h:jW w B t v S) (hg:jC w w'):jW w' B t v S:=h.kept (Moved.of_grew (S:=fun _=>False) hg) (fun _ _ h=>h)
theorem j4.grew (h:j4 w B l vs S) (hg:jC w w'):j4 w' B l vs S:=h.kept (Moved.of_grew (S:=fun _=>False) hg) (fun _ _ h=>h)
theorem jW.mono (h:jW w B t v S) (hS:∀g,S g→T g):jW w B t v T:=by
 cases t
 simp only[jW] at h⊢
 obtain⟨hb,kv,lv,vs,S',e,h1,h2,h3,h4,h5,h6,h7⟩:=h
 exact⟨hb,kv,lv,vs,S',e,h1,h2,fun g hg=>⟨hS g (h3 g hg).1,(h3 g hg).2⟩,fun g hg=>⟨hS g (h4 g hg).1,(h4 g hg).2⟩,h5,fun g hg=>hS g (h6 g hg),h7⟩
theorem j4.mono (h:j4 w B l vs S) (hS:∀g,S g→T g):j4 w B l vs T:=by
 cases l with
 | nil=>exact h
 | cons t r=>
  simp only[j4] at h⊢
  obtain⟨v,vr,S1,S2,e,h1,h2,h3,h4,h5⟩:=h
  exact⟨v,vr,S1,S2,e,fun g hg=>hS g (h1 g hg),fun g hg=>hS g (h2 g hg),h3,h4,h5⟩
theorem jW.node6 (h:jW w B t v S):qX v:=by
 cases t
 simp only[jW] at h
 obtain⟨_,kv,lv,vs,S',rfl,h1,h2,_⟩:=h
 obtain⟨a4,c4,rfl,_⟩:=jT h1
 obtain⟨a5,c5,rfl,_⟩:=jT h2.1
 exact⟨_,_,_,_,_,_,_,_,_,_,rfl⟩
mutual
theorem jW.node {w:World} {B:Nat}:∀{t:Tr} {v:Value} {S:Nat→Prop},jW w B t v S→jL w t v
 | .mk k n u s keys l,v,S,⟨hb,kv,lv,vs,S',e,h1,h2,_,_,_,_,h7⟩=>⟨⟨hb.1,hb.2.1,hb.2.2.1,hb.2.2.2.1⟩,kv,lv,vs,e,h1.strs hb.2.2.2.2,h2.rows,j4.kids h7⟩
theorem j4.kids {w:World} {B:Nat}:∀{l:List Tr} {vs:List Value} {S:Nat→Prop},j4 w B l vs S→k4 w l vs
 | [],_,_,h=>h
 | t::r,_,S,⟨v,vr,S1,S2,e,_,_,_,h4,h5⟩=>⟨v,vr,e,jW.node h4,j4.kids h5⟩
end
theorem j4.length (h:j4 w B l vs S):vs.length=l.length:=h.kids.length
theorem j4.app {l2:List Tr} {vs2:List Value} (h:j4 w B l vs S) (h2:j4 w B l2 vs2 T) (hd:∀g,S g→¬T g):j4 w B (l++l2) (vs++vs2) (fun g=>S g∨T g):=by
 induction l generalizing vs S with
 | nil=>simp only[j4] at h;subst h;exact h2.mono (fun g=>.inr)
 | cons t r ih=>
  simp only[j4] at h
  obtain⟨v,vr,S1,S2,rfl,h1,h2',h3,h4,h5⟩:=h
  simp only[List.cons_append,j4]
  exact⟨v,vr++vs2,S1,fun g=>S2 g∨T g,rfl,fun g hg=>.inl (h1 g hg),fun g hg=>hg.imp (h2' g) id,fun g hg hh=>hh.elim (h3 g hg) (hd g (h1 g hg)),h4,ih h5 (fun g hg=>hd g (h2' g hg))⟩
theorem j4.one (h:jW w B t v S):j4 w B [t] [v] S:=by
 simp only[j4]
 exact⟨v,[],S,fun _=>False,rfl,fun _ h=>h,fun _ h=>h.elim,fun _ _ h=>h,h,rfl⟩
end
def jX (w w':World) (g:Nat):Prop:=w.heap.size≤g∧g < w'.heap.size
mutual
theorem jW.base {w:World} {B B':Nat} (hb:B'≤B):∀{t:Tr} {v:Value} {S:Nat→Prop},jW w B t v S→jW w B' t v S
 | .mk k n u s keys l,v,S,⟨hb0,kv,lv,vs,S',e,h1,h2,h3,h4,h5,h6,h7⟩=>⟨hb0,kv,lv,vs,S',e,kX h1 hb,⟨kX h2.1 hb,h2.2⟩,h3,h4,h5,h6,j4.base hb h7⟩
theorem j4.base {w:World} {B B':Nat} (hb:B'≤B):∀{l:List Tr} {vs:List Value} {S:Nat→Prop},j4 w B l vs S→j4 w B' l vs S
 | [],_,_,h=>h
 | t::r,_,S,⟨v,vr,S1,S2,e,h1,h2,h3,h4,h5⟩=>⟨v,vr,S1,S2,e,h1,h2,h3,jW.base hb h4,j4.base hb h5⟩
end
/-! ### lists of strings -/
def k6 (l:List ByteArray) (many jU:Nat):List ByteArray:=(l.take many).map (zT · jU)
theorem Y1 {l:List ByteArray} {k:Nat} {s:ByteArray} (h:l[k]? = some s) {many:Nat} (hk:k < many) (jU:Nat):k6 (l.take k) many jU++[zT s jU]=k6 (l.take (k+1)) many jU:=by
 obtain⟨hl,hs⟩:=List.getElem?_eq_some_iff.1 h
 unfold k6
 rw[List.take_take,List.take_take,Nat.min_eq_right (by omega:k≤many),Nat.min_eq_right (by omega:k+1≤many),List.take_succ_eq_append_getElem hl,List.map_append,hs]
 rfl
theorem QY (l:List ByteArray) (many jU:Nat):k6 (l.take many) many jU=k6 l many jU:=by simp[k6,List.take_take]
theorem ZT (l:List ByteArray) (many jU:Nat):(k6 l many jU).length=min many l.length:=by simp[k6]
theorem V0 (many jU:Nat) (v:Value) (l:List ByteArray) (w:World) (h:kO w v l) (hm:many≤1000) (hlg:jU≤1000) :
 Calls Try.prog 64 #[v,.int .i64 many,.int .i64 jU] w fun r w'=>∃v',r=.returned v'∧kD w' w.heap.size v' (k6 l many jU)∧jC w w':=by
 obtain⟨ad,c,rfl,hlc,hcm,_,zG⟩:=h
 have HC:=zh zG
 have hl:l.length≤9223372036854775807:=by unfold jI at hcm;omega
 clear zG hcm
 go_enter Try.func64,Try.ntmps64
 go_wp2_with fail
 go_loopw [7,8] (fun v i wr=>∃k:Nat,k≤l.length∧k≤many∧i=.int .i64 k∧Hid (kD wr w.heap.size v (k6 (l.take k) many jU)∧jC w wr)) (fun _ i _=>l.length - (intOf i).toNat)
 case atStart=>exact⟨0,Nat.zero_le _,by omega,rfl,by
  show _∧_
  exact⟨by simpa [k6] using kD.nil _ _,jC.refl _⟩⟩
 case round=>
  obtain⟨k,hk,hk2,rfl,HW⟩:=hrel
  by_cases hlt:k < l.length
  ·by_cases h3:k < many
   ·obtain⟨x,hx⟩:∃x,l[k]? = some x:=⟨_,List.getElem?_eq_getElem hlt⟩
    have HSN:=zh (Y1 hx h3 jU)
    obtain⟨hz,b,off,rfl,c0⟩:=HC.out k x hx
    have HZ:=zh hz
    clear hx hz
    have d0:=HW.out.2.cell c0
    clear c0
    have h3i:(k:Int) < many:=by omega
    go_wp2_with fail
    refine (K5 wr x jU HZ.out hlg).mono ?_
    rintro r w2 ⟨rfl,rfl⟩
    have HO:=zh HW.out.1
    have HG:=zh HW.out.2
    obtain⟨va,vc,rfl,_,_,_⟩:=jT HO.out
    have HLN:Hid ((k6 (l.take k) many jU).length≤1000):=by show _≤_;rw[ZT];omega
    have hzs:Hid (jI (zT x jU).size):=by show jI _;have:=HZ.out;unfold jI at *;rw[q9];omega
    generalize k6 (l.take k) many jU=L at *
    generalize zT x jU=X at *
    clear HW
    have HO2:Hid (∀o,kD (wr.alloc o) w.heap.size (.slice va L.length vc) L):=fun o=>HO.out.grew ((jC.refl _).alloc o)
    go_wp2_with (at_builtin;refine yN rfl _ _ rfl w.heap.size (.slice va L.length vc) L rfl (HO2.out _) _ [X] rfl (Y0 _ _ hzs.out) (by have:=HLN.out;simp;omega) (Nat.le_trans HG.out.size (by simp)) ?_;intro v' w3 kE hgr hqq;obtain⟨va2,vc2,rfl,_,_,_⟩:=jT kE;have HG3:=zh (And.intro kE (YZ (HO2.out _) (HG.out.alloc _) hgr));clear kE hgr hqq)
    go_roundw
    case rel=>
     refine⟨k+1,by omega,by omega,by go_num,?_⟩
     show _∧_
     rw[← HSN.out]
     have hh:=HG3.out
     rw[List.length_append] at hh
     exact hh
    case measure=>simp[intOf];omega
   ·have ek:k=many:=by omega
    subst ek
    have hw:=HW.out
    have HE:Hid (kD wr w.heap.size u7 (k6 l k jU)∧jC w wr):=by
     show _∧_
     rw[QY] at hw
     exact hw
    clear hw HW
    go_wp2
    go_ret
    exact⟨_,rfl,HE.out⟩
  ·have ek:k=l.length:=by omega
   subst ek
   have hw:=HW.out
   have HE:Hid (kD wr w.heap.size u7 (k6 l many jU)∧jC w wr):=by
    show _∧_
    rw[List.take_length] at hw
    exact hw
   clear hw HW
   go_wp2
   all_goals
    go_ret
    exact⟨_,rfl,HE.out⟩
mutual
def zY (jU:Nat):Nat→Tr→Tr × Nat
 | left,.mk k n u s keys l=>(.mk k n u (zT s jU) (k6 keys 64 jU) (jZ jU left l).1,(jZ jU left l).2)
def jZ (jU:Nat):Nat→List Tr→List Tr × Nat
 | left,[]=>([],left)
 | left,t::r=>if left=0 then ([],0) else ((zY jU (left - 1) t).1::(jZ jU (zY jU (left - 1) t).2 r).1,(jZ jU (zY jU (left - 1) t).2 r).2)
end
theorem KH (jU:Nat) (l:List Tr) (t:Tr):∀left,jZ jU left (l++[t]) =
 if (jZ jU left l).2=0 then jZ jU left l else ((jZ jU left l).1++[(zY jU ((jZ jU left l).2 - 1) t).1],(zY jU ((jZ jU left l).2 - 1) t).2):=by
 induction l with
 | nil=>intro left;by_cases h:left=0<;>simp[jZ,h]
 | cons x r ih=>
  intro left
  rw[List.cons_append,jZ,jZ]
  by_cases h:left=0
  ·simp[h]
  ·rw[if_neg h,if_neg h,ih]
   by_cases h2:(jZ jU (zY jU (left - 1) x).2 r).2=0
   ·rw[if_pos h2,if_pos h2]
   ·rw[if_neg h2,if_neg h2]
    simp
theorem Y2 (jU:Nat) (l r:List Tr) (left:Nat) (h:(jZ jU left l).2=0):jZ jU left (l++r)=jZ jU left l:=by
 induction r generalizing l with
 | nil=>simp
 | cons x r ih=>
  have e:l++x::r=(l++[x])++r:=by simp
  have h2:jZ jU left (l++[x])=jZ jU left l:=by rw[KH,if_pos h]
  rw[e,ih (l++[x]) (by rw[h2];exact h),h2]
mutual
theorem vX (jU:Nat):∀(t:Tr) (left:Nat),(zY jU left t).1.size+(zY jU left t).2≤left+1
 | .mk k n u s keys l,left=>by
  have:=vA jU l left
  simp only[zY,Tr.size]
  omega
theorem vA (jU:Nat):∀(l:List Tr) (left:Nat),kI (jZ jU left l).1+(jZ jU left l).2≤left
 | [],left=>by simp[jZ,kI]
 | t::r,left=>by
  rw[jZ]
  by_cases h:left=0
  ·simp[h,kI]
  ·rw[if_neg h]
   have h1:=vX jU t (left - 1)
   have h2:=vA jU r (zY jU (left - 1) t).2
   simp only[kI]
   omega
end
def zI (R:Nat→Prop) (W w:World) (v:Value) (ts:List Tr):Prop:=
 ∃vs S,kK w W.heap.size v vs∧j4 w W.heap.size ts vs S∧(∀g,S g→W.heap.size≤g∧g < w.heap.size∧v.ownBlock≠some g)∧Moved R W w
theorem zI.start (R:Nat→Prop) (W:World):zI R W W (.slice none 0 0) []:=
 ⟨[],fun _=>False,kK.nil _ _,rfl,fun _ h=>h.elim,Moved.refl _ _⟩
theorem zI.form {R:Nat→Prop} {W w:World} {v:Value} {ts:List Tr} (h:zI R W w v ts):∃a c,v=.slice a ts.length c∧ts.length≤c∧jI c∧(a=none→c=0):=by
 obtain⟨vs,S,h1,h2,_⟩:=h
 have:=jT h1.1
 rwa [h2.length] at this
theorem zI.step {R:Nat→Prop} {W wr w2 w3:World} {v v' xv:Value} {ts:List Tr} {x:Tr} (hR:∀g,R g→g < W.heap.size) (vs:List Value) (S:Nat→Prop) (h2:j4 wr W.heap.size ts vs S) (h1:kK wr W.heap.size v vs)
 (h3:∀g,S g→W.heap.size≤g∧g < wr.heap.size∧v.ownBlock≠some g) (h4:Moved R W wr)
 (hx:jW w2 wr.heap.size x xv (jX wr w2)) (hm:Moved R wr w2) (o:Obj) (kE:kK w3 W.heap.size v' (vs++[xv])) (hgr:(w2.alloc o).grownBy w3 v.ownBlock) (hn:vW (w2.alloc o) v.ownBlock v'.ownBlock):zI R W w3 v' (ts++[x]):=by
 have hm3:Moved (fun k=>some k=v.ownBlock) (w2.alloc o) w3:=Moved.of_grown hgr
 have hga:jC w2 (w2.alloc o):=(jC.refl w2).alloc o
 have hlt:∀g,v.ownBlock=some g→W.heap.size≤g∧g < wr.heap.size:=fun g hg=>World.ownsRow.lt h1.1 g hg
 have hs2:wr.heap.size≤w2.heap.size:=hm.size
 have hs3:w2.heap.size≤(w2.alloc o).heap.size:=hga.size
 have hs4:(w2.alloc o).heap.size≤w3.heap.size:=hm3.size
 have hWr:W.heap.size≤wr.heap.size:=h4.size
 have k1:j4 w3 W.heap.size ts vs S:=((h2.kept hm (fun g hg hr=>by have:=(h3 g hg).1;have:=hR g hr;omega)).grew hga).kept hm3 (fun g hg e=>(h3 g hg).2.2 e.symm)
 have k2:jW w3 W.heap.size x xv (jX wr w2):=((hx.grew hga).kept hm3 (fun g hg e=>by have:=hlt g e.symm;have:=hg.1;omega)).base hWr
 refine⟨vs++[xv],fun g=>S g∨jX wr w2 g,kE,k1.app (j4.one k2) (fun g hg hh=>by have:=(h3 g hg).2.1;have:=hh.1;omega),fun g hg=>?_,?_⟩
 ·have hb:W.heap.size≤g∧g < w2.heap.size:=by
   rcases hg with hg|hg
   ·have:=h3 g hg;omega
   ·exact⟨Nat.le_trans hWr hg.1,hg.2⟩
  refine⟨hb.1,by omega,fun e=>?_⟩
  rcases hn g e with e|e
  ·rcases hg with hg|hg
   ·exact (h3 g hg).2.2 e
   ·have:=hlt g e;have:=hg.1;omega
  ·omega
 ·exact ((h4.trans' hm).grew hga).trans hm3 fun j hj e=>by have:=hlt j e.symm;omega
theorem zI.tree {R:Nat→Prop} {w0 W w:World} {v kv:Value} {ts:List Tr} {k n u:Int} {s:ByteArray} {keys:List ByteArray} (h:zI R W w v ts) (hb:jQ k∧jQ n∧j9 u∧jI s.size∧∀x∈keys,jI x.size)
 (h0:w0.heap.size≤W.heap.size) (hk:kD w w0.heap.size kv keys) (hkW:∀g,kv.ownBlock=some g→g < W.heap.size) :
 jW w w0.heap.size (.mk k n u s keys ts) (.agg #[.int .i64 k,.int .i64 n,.int .u64 u,.string s,kv,v]) (jX w0 w):=by
 obtain⟨vs,S,h1,h2,h3,h4⟩:=h
 simp only[jW]
 refine⟨hb,kv,v,vs,S,rfl,hk,⟨kX h1.1 h0,h1.2⟩,fun g hg=>⟨?_,fun hs=>?_⟩,fun g hg=>⟨?_,fun hs=>(h3 g hs).2.2 hg⟩,fun g hg hg2=>?_,fun g hg=>?_,h2.base h0⟩
 ·have:=World.ownsRow.lt hk g hg;exact⟨this.1,this.2⟩
 ·have:=(h3 g hs).1;have:=hkW g hg;omega
 ·have:=World.ownsRow.lt h1.1 g hg;exact⟨by omega,this.2⟩
 ·have:=World.ownsRow.lt h1.1 g hg2;have:=hkW g hg;omega
 ·have:=h3 g hg;exact⟨by omega,this.2.1⟩
theorem zI.kept {R T:Nat→Prop} {W w w':World} {v:Value} {ts:List Tr} (h:zI R W w v ts) (hm:Moved T w w') (hT:∀g,T g→g < W.heap.size) (hRT:∀g,T g→R g):zI R W w' v ts:=by
 obtain⟨vs,S,h1,h2,h3,h4⟩:=h
 refine⟨vs,S,⟨Moved.owns hm h1.1 (fun g hg ht=>by have:=World.ownsRow.lt h1.1 g hg;have:=hT g ht;omega),h1.2⟩,h2.kept hm (fun g hg ht=>by have:=(h3 g hg).1;have:=hT g ht;omega),fun g hg=>?_,h4.trans hm (fun g _ ht=>hRT g ht)⟩
 have:=h3 g hg
 have:=hm.size
 exact⟨by omega,by omega,(h3 g hg).2.2⟩
theorem zI.wider {R T:Nat→Prop} {W w:World} {v:Value} {ts:List Tr} (h:zI R W w v ts) (hRT:∀g,R g→T g):zI T W w v ts:=by
 obtain⟨vs,S,h1,h2,h3,h4⟩:=h
 exact⟨vs,S,h1,h2,h3,h4.mono (fun g _ hg=>hRT g hg)⟩
mutual
def Few:Tr→Prop | .mk _ _ _ _ keys l=>keys.length≤4096∧l.length≤4096∧ZU l
def ZU:List Tr→Prop | []=>True | t::r=>Few t∧ZU r
end
theorem ZU.mem {l:List Tr} (h:ZU l) {x:Tr} (hx:x∈l):Few x:=by
 induction l with
 | nil=>cases hx
 | cons t r ih=>
  simp only[ZU] at h
  rcases List.mem_cons.1 hx with rfl|hx
  ·exact h.1
  ·exact ih h.2 hx
theorem vB {w:World} {g:Nat} {a b c d e f:Value} {t:TypeId} (h:w.heap[g]? = some (.cells #[a,b,c,d,e,f] t (0,0))) (a' b' c' d' e' f':Value) :
 ((((((w.setCell ⟨g,0,none⟩ a').setCell ⟨g,1,none⟩ b').setCell ⟨g,2,none⟩ c').setCell ⟨g,3,none⟩ d').setCell ⟨g,4,none⟩ e').setCell ⟨g,5,none⟩ f').heap[g]? = some (.cells #[a',b',c',d',e',f'] t (0,0)):=by
 have h1:=heap_setCell_same w g 0 _ _ a' h
 have h2:=heap_setCell_same _ g 1 _ _ b' h1
 have h3:=heap_setCell_same _ g 2 _ _ c' h2
 have h4:=heap_setCell_same _ g 3 _ _ d' h3
 have h5:=heap_setCell_same _ g 4 _ _ e' h4
 have h6:=heap_setCell_same _ g 5 _ _ f' h5
 simpa using h6
theorem kC (w:World) (g:Nat) (a' b' c' d' e' f':Value) :
 Moved (fun k=>k=g) w ((((((w.setCell ⟨g,0,none⟩ a').setCell ⟨g,1,none⟩ b').setCell ⟨g,2,none⟩ c').setCell ⟨g,3,none⟩ d').setCell ⟨g,4,none⟩ e').setCell ⟨g,5,none⟩ f'):=
 Moved.setCell (S:=fun k=>k=g) (p:=⟨g,5,none⟩) (Moved.setCell (S:=fun k=>k=g) (p:=⟨g,4,none⟩) (Moved.setCell (S:=fun k=>k=g) (p:=⟨g,3,none⟩) (Moved.setCell (S:=fun k=>k=g) (p:=⟨g,2,none⟩) (Moved.setCell (S:=fun k=>k=g) (p:=⟨g,1,none⟩) (Moved.setCell (S:=fun k=>k=g) (p:=⟨g,0,none⟩) (Moved.refl _ w) (fun _=>rfl) _) (fun _=>rfl) _) (fun _=>rfl) _) (fun _=>rfl) _) (fun _=>rfl) _) (fun _=>rfl) _
abbrev jH (w:World) (g:Nat) (a' b' c' d' e' f':Value):World:=((((((w.setCell ⟨g,0,none⟩ a').setCell ⟨g,1,none⟩ b').setCell ⟨g,2,none⟩ c').setCell ⟨g,3,none⟩ d').setCell ⟨g,4,none⟩ e').setCell ⟨g,5,none⟩ f')
theorem vC (w:World) (g r:Nat) (a b c d e f:Value) (x:Value):Moved (fun k=>k=g∨k=r) w (jH (w.setCell ⟨g,5,none⟩ x) r a b c d e f):=
 (Moved.setCell (S:=fun k=>k=g∨k=r) (p:=⟨g,5,none⟩) (Moved.refl _ w) (fun _=>.inl rfl) x).trans (kC _ r a b c d e f) (fun _ _ h=>.inr h)
theorem Moved.fresh {S:Nat→Prop} {w0 w w':World} (hg:jC w0 w) (h:Moved S w w') (hS:∀g,S g→w0.heap.size≤g):jC w0 w':=
 Below.trans hg (h.below hg.size hS)
theorem jL.node6 {w:World} {t:Tr} {v:Value} (h:jL w t v):qX v:=by
 cases t
 simp only[jL] at h
 obtain⟨_,kv,lv,vs,rfl,⟨a4,c4,rfl,_⟩,⟨a5,c5,rfl,_⟩,_⟩:=h
 exact⟨_,_,_,_,_,_,_,_,_,_,rfl⟩
theorem kQ.get {w:World} {b o:Nat} {x0 x1 x2 x3 x4 x5:Value} (h:kQ w b o (.agg #[x0,x1,x2,x3,x4,x5])) :
 w.cell? ⟨b,o,none⟩=some x0∧w.cell? ⟨b,o+1,none⟩=some x1∧w.cell? ⟨b,o+2,none⟩=some x2∧w.cell? ⟨b,o+3,none⟩=some x3∧w.cell? ⟨b,o+4,none⟩=some x4∧w.cell? ⟨b,o+5,none⟩=some x5:=by
 obtain⟨c0,c1,c2,c3,c4,c5,e,h⟩:=h
 injection e with e
 injection e with e
 simp at e
 obtain⟨rfl,rfl,rfl,rfl,rfl,rfl⟩:=e
 exact h
theorem zM {w:World} {B:Nat} {e t:TypeId} {size n:Nat} {v:Value} {xs:List Value} (h:w.ownsRow B e size v n xs) {g:Nat} {cs:Array Value} (hg:w.heap[g]? = some (.cells cs t (0,0))) (he:e≠t):v.ownBlock≠some g:=by
 intro hv
 rcases h.2 with ⟨rfl,_⟩|⟨g2,cap,cur,rfl,_,h2,_⟩
 ·cases hv
 ·have:g2=g:=by injection hv
  subst this
  rw[hg] at h2
  injection h2 with h2
  injection h2 with _ h2
  exact he h2.symm
theorem YK:∀(m:Nat) (t:Tr),t.size≤m→∀(v:Value) (w:World),jL w t v→Few t →
 Calls Try.prog 51 #[v] w fun r w'=>∃v',r=.returned v'∧jW w' w.heap.size t v' (jX w w')∧jC w w':=by
 intro m
 induction m with
 | zero=>intro t ht;have:=t.size_pos;omega
 | succ m ih=>
 intro t ht v w hn hf
 obtain⟨k,n,u,s,keys,l⟩:=t
 simp only[jL] at hn
 obtain⟨hb,kv,lv,vs,rfl,hks,kS,kP⟩:=hn
 simp only[Few] at hf
 obtain⟨hf1,hf2,hf3⟩:=hf
 have hkl:vs.length=l.length:=kP.length
 have HKS:=zh hks
 have HK:=zh kP
 have HF3:=zh hf3
 have HB:=zh hb
 obtain⟨a4,c4,rfl,hx1,hx2,hx3,hx4⟩:=hks
 clear hx1 hx2 hx3 hx4
 have j8:=zh kS
 obtain⟨a5,c5,rfl,hx1,hc5,hx3,hx4⟩:=kS
 clear hx1 hx3 hx4
 rw[hkl] at j8⊢
 have hkz:Hid (∀x∈keys,jI x.size):=fun x hx=>by
  obtain⟨_,_,_,_,_,_,h⟩:=HKS.out
  obtain⟨i,hi,rfl⟩:=List.mem_iff_getElem.1 hx
  exact (h i _ (List.getElem?_eq_getElem hi)).1
 have hsz:∀x∈l,x.size≤m:=fun x hx=>by have:=k9 hx;simp only[Tr.size] at ht;omega
 have HSZ:=zh hsz
 clear kP hf3 hb hsz ht hkl hc5
 go_enter Try.func51,Try.ntmps51
 go_wp2_with fail
 have hb1:=heap_alloc_new w (.cells #[.int .i64 k,.int .i64 n,.int .u64 u,.string s,.slice a4 keys.length c4,.slice a5 l.length c5] 26)
 have hg1:=(jC.refl w).alloc (.cells #[.int .i64 k,.int .i64 n,.int .u64 u,.string s,.slice a4 keys.length c4,.slice a5 l.length c5] 26)
 have hs1:(w.alloc (.cells #[.int .i64 k,.int .i64 n,.int .u64 u,.string s,.slice a4 keys.length c4,.slice a5 l.length c5] 26)).heap.size=w.heap.size+1:=World.size_alloc _ _
 generalize (w.alloc (.cells #[.int .i64 k,.int .i64 n,.int .u64 u,.string s,.slice a4 keys.length c4,.slice a5 l.length c5] 26))=w1 at *
 have hb2:=heap_alloc_new w1 (.cells #[.int .i64 0,.int .i64 0,.int .u64 0,.string ⟨#[]⟩,.slice none 0 0,.slice none 0 0] 26)
 have hg2:=(jC.refl w1).alloc (.cells #[.int .i64 0,.int .i64 0,.int .u64 0,.string ⟨#[]⟩,.slice none 0 0,.slice none 0 0] 26)
 have hs2:(w1.alloc (.cells #[.int .i64 0,.int .i64 0,.int .u64 0,.string ⟨#[]⟩,.slice none 0 0,.slice none 0 0] 26)).heap.size=w1.heap.size+1:=World.size_alloc _ _
 rw[hs1] at hb2 hs2
 skip
 generalize (w1.alloc (.cells #[.int .i64 0,.int .i64 0,.int .u64 0,.string ⟨#[]⟩,.slice none 0 0,.slice none 0 0] 26))=w2 at *
 replace hb1:=hg2.heap hb1
 have hG:=hg1.trans hg2
 have hs2':w2.heap.size=w.heap.size+2:=by omega
 obtain⟨N,hN⟩:∃N,w.heap.size=N:=⟨_,rfl⟩
 rw[hN] at hb1 hb2 hs2'⊢
 have hB2:Hid (N+2≤w2.heap.size):=by show _≤_;omega
 have c0:=jA hb1 0 _ rfl
 have c1:=jA hb1 1 _ rfl
 have c2:=jA hb1 2 _ rfl
 have c3:=jA hb1 3 _ rfl
 have c4':=jA hb1 4 _ rfl
 have HB1:=zh hb1
 have HB2:=zh hb2
 have HG:=zh hG
 have HS2:=zh hs2'
 have HN:=zh hN
 clear hb1 hb2 hG hs1 hs2 hs2' hg1 hg2 hN
 refine qD jC [[],[0],[],[2],[],[4],[],[6],[],[8],[9],[1,3,5,7,10],[],[11,12]] [[(8,2),(9,3),(10,4),(11,5),(12,6),(13,7),(14,8),(15,9),(16,10),(17,11),(3,12)],[(6,0),(8,2),(9,3),(10,4),(11,5),(12,6),(13,7),(14,8),(15,9),(16,10),(3,12)],[(6,0),(7,1),(10,4),(11,5),(12,6),(13,7),(14,8),(15,9),(16,10),(17,11),(3,12)],[(6,0),(7,1),(8,2),(10,4),(11,5),(12,6),(13,7),(14,8),(15,9),(16,10),(3,12)],[(6,0),(7,1),(8,2),(9,3),(12,6),(13,7),(14,8),(15,9),(16,10),(17,11),(3,12)],[(6,0),(7,1),(8,2),(9,3),(10,4),(12,6),(13,7),(14,8),(15,9),(16,10),(3,12)],[(6,0),(7,1),(8,2),(9,3),(10,4),(11,5),(14,8),(15,9),(16,10),(17,11),(3,12)],[(6,0),(7,1),(8,2),(9,3),(10,4),(11,5),(12,6),(14,8),(15,9),(16,10),(3,12)],[(6,0),(7,1),(8,2),(9,3),(10,4),(11,5),(12,6),(13,7),(16,10),(17,11),(3,12)],[(6,0),(7,1),(8,2),(9,3),(10,4),(11,5),(12,6),(13,7),(14,8),(17,11),(3,12)],[(6,0),(7,1),(8,2),(9,3),(10,4),(11,5),(12,6),(13,7),(14,8),(15,9),(3,12)],[(6,0),(7,1),(8,2),(9,3),(10,4),(11,5),(12,6),(13,7),(14,8),(15,9),(16,10),(3,12)],[(6,0),(7,1),(8,2),(9,3),(10,4),(11,5),(12,6),(13,7),(14,8),(15,9),(16,10),(17,11)],[(6,0),(7,1),(8,2),(9,3),(10,4),(11,5),(12,6),(13,7),(14,8),(15,9),(16,10),(17,11),(3,12)]]
  [Is (.pointer (some ⟨N,0,none⟩)),Is (.int .i64 k),Is (.pointer (some ⟨N,1,none⟩)),Is (.int .i64 n),Is (.pointer (some ⟨N,2,none⟩)),Is (.int .u64 u),Is (.pointer (some ⟨N,3,none⟩)),Is (.string s),Is (.pointer (some ⟨N,4,none⟩)),Is (.slice a4 keys.length c4),fun v w=>kD w (N+2) v keys,fun v w=>∃kv',v=.agg #[.int .i64 k,.int .i64 n,.int .u64 u,.string s,kv',.slice none 0 0]∧kD w (N+2) kv' keys,fun v w=>∃g,v=.pointer (some ⟨g,0,none⟩)∧(N+2)≤g∧w.heap[g]? = some (.cells #[.int .i64 0,.int .i64 0,.int .u64 0,.string ⟨#[]⟩,.slice none 0 0,.slice none 0 0] 26)]
  zk jC.trans jC.refl (jC.refl _).drew zk ⟨jG,jG,jG,jG,jG,jG,jG,jG,jG,jG,fun _ _ _ hg h=>kD.grew h hg,fun _ _ _ hg h=>h.elim fun q h=>⟨q,h.1,kD.grew h.2 hg⟩,fun _ _ _ hg h=>h.elim fun q h=>⟨q,h.1,h.2.1,hg.heap h.2.2⟩,trivial⟩ rfl ⟨?_,?_,?_,?_,?_,?_,?_,?_,?_,?_,?_,?_,?_,trivial⟩ ?_ rfl
 ·intro y w2' hG hD K hK
  simp only[jD,Act.put,zq1,zq2,zq3,zq4,zq5,Is] at hK⊢
  refine jF ?_
  go_simp
  exact hK _ _ _ rfl (jC.refl _) rfl
 ·intro y w2' hG hD K hK
  simp only[jM,zq4,zq5,Is,and_true] at hD
  have h0:=hD
  clear hD
  have dc0:=hG.cell c0
  have dc1:=hG.cell c1
  have dc2:=hG.cell c2
  have dc3:=hG.cell c3
  have dc4':=hG.cell c4'
  simp only[jD,Act.put,zq1,zq2,zq3,zq4,zq5,Is] at hK⊢
  rw[h0] at hK⊢
  clear h0
  refine jF ?_
  go_simp
  exact hK _ _ _ rfl (jC.refl _) rfl
 ·intro y w2' hG hD K hK
  simp only[jD,Act.put,zq1,zq2,zq3,zq4,zq5,Is] at hK⊢
  refine jF ?_
  go_simp
  exact hK _ _ _ rfl (jC.refl _) rfl
 ·intro y w2' hG hD K hK
  simp only[jM,zq4,zq5,Is,and_true] at hD
  have h2:=hD
  clear hD
  have dc0:=hG.cell c0
  have dc1:=hG.cell c1
  have dc2:=hG.cell c2
  have dc3:=hG.cell c3
  have dc4':=hG.cell c4'
  simp only[jD,Act.put,zq1,zq2,zq3,zq4,zq5,Is] at hK⊢
  rw[h2] at hK⊢
  clear h2
  refine jF ?_
  go_simp
  exact hK _ _ _ rfl (jC.refl _) rfl
 ·intro y w2' hG hD K hK
  simp only[jD,Act.put,zq1,zq2,zq3,zq4,zq5,Is] at hK⊢
  refine jF ?_
  go_simp
  exact hK _ _ _ rfl (jC.refl _) rfl
 ·intro y w2' hG hD K hK
  simp only[jM,zq4,zq5,Is,and_true] at hD
  have h4:=hD
  clear hD
  have dc0:=hG.cell c0
  have dc1:=hG.cell c1
  have dc2:=hG.cell c2
  have dc3:=hG.cell c3
  have dc4':=hG.cell c4'
  simp only[jD,Act.put,zq1,zq2,zq3,zq4,zq5,Is] at hK⊢
  rw[h4] at hK⊢
  clear h4
  refine jF ?_
  go_simp
  exact hK _ _ _ rfl (jC.refl _) rfl
 ·intro y w2' hG hD K hK
  simp only[jD,Act.put,zq1,zq2,zq3,zq4,zq5,Is] at hK⊢
  refine jF ?_
  go_simp
  exact hK _ _ _ rfl (jC.refl _) rfl
 ·intro y w2' hG hD K hK
  simp only[jM,zq4,zq5,Is,and_true] at hD
  have h6:=hD
  clear hD
  have dc0:=hG.cell c0
  have dc1:=hG.cell c1
  have dc2:=hG.cell c2
  have dc3:=hG.cell c3
  have dc4':=hG.cell c4'
  simp only[jD,Act.put,zq1,zq2,zq3,zq4,zq5,Is] at hK⊢
  rw[h6] at hK⊢
  clear h6
  refine jF ?_
  go_simp
  exact hK _ _ _ rfl (jC.refl _) rfl
 ·intro y w2' hG hD K hK
  simp only[jD,Act.put,zq1,zq2,zq3,zq4,zq5,Is] at hK⊢
  refine jF ?_
  go_simp
  exact hK _ _ _ rfl (jC.refl _) rfl
 ·intro y w2' hG hD K hK
  simp only[jM,zq4,zq5,Is,and_true] at hD
  have h8:=hD
  clear hD
  have dc0:=hG.cell c0
  have dc1:=hG.cell c1
  have dc2:=hG.cell c2
  have dc3:=hG.cell c3
  have dc4':=hG.cell c4'
  simp only[jD,Act.put,zq1,zq2,zq3,zq4,zq5,Is] at hK⊢
  rw[h8] at hK⊢
  clear h8
  refine jF ?_
  go_simp
  exact hK _ _ _ rfl (jC.refl _) rfl
 ·intro y w2' hG hD K hK
  simp only[jM,zq4,zq5,Is,and_true] at hD
  have h9:=hD
  clear hD
  simp only[jD,Act.put,zq1,zq2,zq3,zq4,zq5,Is] at hK⊢
  rw[h9] at hK⊢
  clear h9
  refine jF ?_
  go_simp
  refine (vP _ _ _ (HKS.out.grew (HG.out.trans hG)) (by omega)).mono ?_
  rintro r w3 ⟨v',rfl,hv,hg⟩
  exact hK _ _ _ rfl hg (kX hv (Nat.le_trans hB2.out hG.size))
 ·intro y w2' hG hD K hK
  simp only[jM,zq4,zq5,Is,and_true] at hD
  have h1:=hD.1
  have h3:=hD.2.1
  have h5:=hD.2.2.1
  have h7:=hD.2.2.2.1
  have h10:=hD.2.2.2.2
  clear hD
  simp only[jD,Act.put,zq1,zq2,zq3,zq4,zq5,Is] at hK⊢
  rw[h1,h3,h5,h7] at hK⊢
  clear h1 h3 h5 h7
  refine jF ?_
  refine Exists.elim (jT h10) fun va h=>Exists.elim h fun vc h=>?_
  have hs:=h.1
  clear h
  rw[hs] at hK h10⊢
  go_simp
  exact hK _ _ _ rfl (jC.refl _) ⟨_,rfl,h10⟩
 ·intro y w2' hG hD K hK
  simp only[jD,Act.put,zq1,zq2,zq3,zq4,zq5,Is] at hK⊢
  refine jF ?_
  go_simp
  exact hK _ _ _ rfl ((jC.refl _).alloc _) ⟨_,rfl,Nat.le_trans hB2.out hG.size,heap_alloc_new _ _⟩
 ·intro y w2' hG hF K hK
  simp only[zH,Is,and_true,Nat.reduceAdd] at hF
  have h0:=hF.1
  have h1:=hF.2.1
  have h2:=hF.2.2.1
  have h3:=hF.2.2.2.1
  have h4:=hF.2.2.2.2.1
  have h5:=hF.2.2.2.2.2.1
  have h6:=hF.2.2.2.2.2.2.1
  have h7:=hF.2.2.2.2.2.2.2.1
  have h8:=hF.2.2.2.2.2.2.2.2.1
  have h9:=hF.2.2.2.2.2.2.2.2.2.1
  have h10:=hF.2.2.2.2.2.2.2.2.2.2.1
  have h11:=hF.2.2.2.2.2.2.2.2.2.2.2.1
  have h12:=hF.2.2.2.2.2.2.2.2.2.2.2.2
  clear hF
  simp only[yK]
  simp only[jD,Act.put,zq1,zq2,zq3,zq4,zq5,Is] at hK⊢
  rw[h0,h1,h2,h3,h4,h5,h6,h7,h8,h9]
  clear h0 h1 h2 h3 h4 h5 h6 h7 h8 h9
  refine jF ?_
  refine Exists.elim h11 fun kv' h=>?_
  have hs11:=h.1
  have hkv:=h.2
  refine Exists.elim (jT hkv) fun va h=>Exists.elim h fun vc h=>?_
  have hs:=h.1
  rw[hs] at hkv hs11
  clear h h11 hs h10
  refine Exists.elim h12 fun g h=>?_
  have hs12:=h.1
  have hgB:=h.2.1
  have jP:=h.2.2
  clear h h12
  rw[hs11,hs12]
  clear hs11 hs12
  have f0:=jB jP 0
  have f1:=jB jP 1
  have f2:=jB jP 2
  have f3:=jB jP 3
  have f4:=jB jP 4
  have f5:=jB jP 5
  have d0:=jA jP 0 _ rfl
  have d1:=jA jP 1 _ rfl
  have d2:=jA jP 2 _ rfl
  have d3:=jA jP 3 _ rfl
  have d4:=jA jP 4 _ rfl
  have d5:=jA jP 5 _ rfl
  have hrow2:=vB jP (.int .i64 k) (.int .i64 n) (.int .u64 u) (.string s) (.slice va keys.length vc) (.slice none 0 0)
  have hmv:=kC w2' g (.int .i64 k) (.int .i64 n) (.int .u64 u) (.string s) (.slice va keys.length vc) (.slice none 0 0)
  have hkv2:kD _ (N+2) (.slice va keys.length vc) keys:=Moved.owns hmv hkv (fun q hq e=>zM hkv jP (by decide) (by rw[hq,e]))
  have hgr:=Moved.fresh hG hmv (fun q e=>by have:=HS2.out;omega)
  clear hG jP hmv hkv
  go_simp
  refine hK _ _ ?_
  clear f0 f1 f2 f3 f4 f5 d0 d1 d2 d3 d4 d5 hK
  generalize ((((((w2'.setCell ⟨g,0,none⟩ (.int .i64 k)).setCell ⟨g,1,none⟩ (.int .i64 n)).setCell ⟨g,2,none⟩ (.int .u64 u)).setCell ⟨g,3,none⟩ (.string s)).setCell ⟨g,4,none⟩ (.slice va keys.length vc)).setCell ⟨g,5,none⟩ (.slice none 0 0))=w3 at *
  have kJ:=zh hrow2
  have HKV:=zh hkv2
  have HB1':=zh (hgr.heap HB1.out)
  have HB2':=zh (hgr.heap HB2.out)
  have HG3:=zh (HG.out.trans hgr)
  clear hrow2 hkv2 HB1 HB2 HG c0 c1 c2 c3 c4'
  have hgN:Hid (N+2≤g):=hgB
  clear hgB
  generalize y 10=y10
  go_wp2_with fail
  go_loopw [4,5] (fun v i wr=>∃kk:Nat,kk≤l.length∧i=.int .i64 kk∧Hid (zI (fun _=>False) w3 wr v (l.take kk))) (fun _ i _=>l.length - (intOf i).toNat)
  case atStart=>exact⟨0,Nat.zero_le _,rfl,by show zI _ _ _ _ _;exact zI.start _ _⟩
  case round=>
   obtain⟨kk,hkk,rfl,HW⟩:=hrel
   have hgw:jC w3 wr:=by obtain⟨_,_,_,_,_,hm⟩:=HW.out;exact Moved.fresh (jC.refl _) hm (fun g h=>h.elim)
   have HGW:=zh hgw
   have b5:=jA (hgw.heap HB1'.out) 5 _ rfl
   clear hgw
   by_cases hlt:kk < l.length
   ·obtain⟨x,hx⟩:∃x,l[kk]? = some x:=⟨_,List.getElem?_eq_getElem hlt⟩
    obtain⟨xv,hxv,hnx⟩:=HK.out.get hx
    have hxm:x∈l:=List.mem_of_getElem? hx
    have HX:=zh (show l.take kk++[x]=l.take (kk+1) by rw[List.take_add_one,hx];rfl)
    have HFX:=zh (HF3.out.mem hxm)
    have hxs:=HSZ.out x hxm
    have zX:Hid (∀w',jC w w'→jL w' x xv):=fun w' hg=>hnx.grew hg
    obtain⟨b,off,rfl,hc6⟩:∃b off,a5=some ⟨b,off,none⟩∧kQ wr b (off+kk*6) xv:=by
     obtain⟨a,c,e,_,_,_,h⟩:=j8.out
     injection e with e1 e2 e3
     subst e1
     obtain⟨b,off,e,h6⟩:=h kk xv hxv
     exact⟨b,off,e,h6.grew (HG3.out.trans HGW.out)⟩
    obtain⟨xk,xn,xu,xs,xa4,xn4,xc4,xa5,xn5,xc5,rfl⟩:=hnx.node6
    obtain⟨e0,e1,e2,e3,e4,e5⟩:=hc6.get
    clear hc6 hx hxv hnx hxm
    have yD:(kk:Int) < l.length:=by omega
    go_wp2_with fail
    refine (ih x hxs _ wr (zX.out wr (HG3.out.trans HGW.out)) HFX.out).mono ?_
    rintro r w4 ⟨xv,rfl,hox,hg4⟩
    obtain⟨yk,yn,yu,ys,ya4,yn4,yc4,ya5,yn5,yc5,rfl⟩:=hox.node6
    have HOX:=zh hox
    have HG4:=zh hg4
    obtain⟨vs4,S4,q1,q2,q3,q4⟩:=HW.out
    obtain⟨ga,gc,rfl,hz1,hz2,hz3⟩:=HW.out.form
    have HV4:Hid (vs4.length≤4096):=by show _≤_;rw[q2.length,List.length_take];omega
    have HQ1:=zh q1
    have HQ2:=zh q2
    have HQ3:=zh q3
    have HQ4:=zh q4
    have HON:Hid (∀o,kK (w4.alloc o) w3.heap.size (.slice ga (l.take kk).length gc) vs4):=fun o=>(q1.grew hg4).grew ((jC.refl _).alloc o)
    have HSZ4:Hid (∀o,w3.heap.size≤(w4.alloc o).heap.size):=fun o=>Nat.le_trans (Nat.le_trans HGW.out.size hg4.size) ((jC.refl w4).alloc o).size
    clear q1 q2 q3 q4 hz1 hz2 hz3 hox hg4 HW e0 e1 e2 e3 e4 e5 b5
    generalize l.take kk=L at *
    go_wp2_with (at_builtin;refine zL rfl _ _ rfl w3.heap.size _ vs4 rfl (HON.out _) _ _ (.agg #[.int .i64 yk,.int .i64 yn,.int .u64 yu,.string ys,.slice ya4 yn4 yc4,.slice ya5 yn5 yc5]) rfl (heap_alloc_new _ _) ⟨_,_,_,_,_,_,_,_,_,_,rfl⟩ (by have:=HV4.out;omega) (HSZ4.out _) ?_;intro v' w5 kE hgr hnx;obtain⟨va2,vc2,rfl,hz1,hz2,hz3⟩:=jT kE.1;have HG5:=zh (zI.step (R:=fun _=>False) (fun g h=>h.elim) vs4 S4 HQ2.out HQ1.out HQ3.out HQ4.out HOX.out (Moved.of_grew HG4.out) _ kE hgr hnx);clear kE hgr hnx hz1 hz2 hz3)
    go_roundw
    case rel=>
     refine⟨kk+1,by omega,by go_num,?_⟩
     show zI _ _ _ _ _
     rw[← HX.out]
     have hh:=HG5.out
     rw[List.length_append] at hh
     exact hh
    case measure=>simp[intOf];omega
   ·have ek:kk=l.length:=by omega
    subst ek
    have hw:=HW.out
    rw[List.take_length] at hw
    have HE:=zh hw
    have hgw:=HGW.out
    have jP:=hgw.heap kJ.out
    have jR:=hgw.heap HB2'.out
    have HROWW:=zh jP
    have HRESW:=zh jR
    have f5:=jB jP 5
    have r0:=jB jR 0
    have r1:=jB jR 1
    have r2:=jB jR 2
    have r3:=jB jR 3
    have r4:=jB jR 4
    have r5:=jB jR 5
    have d0:=jA jP 0 _ rfl
    have d1:=jA jP 1 _ rfl
    have d2:=jA jP 2 _ rfl
    have d3:=jA jP 3 _ rfl
    have d4:=jA jP 4 _ rfl
    have d5:=jA jP 5 _ rfl
    have z0:=jA jR 0 _ rfl
    have z1:=jA jR 1 _ rfl
    have z2:=jA jR 2 _ rfl
    have z3:=jA jR 3 _ rfl
    have z4:=jA jR 4 _ rfl
    have z5:=jA jR 5 _ rfl
    have hne:¬g=N+1:=by have:=hgN.out;omega
    have hne2:¬N+1=g:=by have:=hgN.out;omega
    obtain⟨ga,gc,rfl,hz1,hz2,hz3⟩:=HE.out.form
    clear hw HW hgw jP jR hz1 hz2 hz3
    have hT:=vC wr g (N+1) (.int .i64 k) (.int .i64 n) (.int .u64 u) (.string s) (.slice va keys.length vc) (.slice ga l.length gc) (.slice ga l.length gc)
    have hTW:jC w (jH (wr.setCell ⟨g,5,none⟩ (.slice ga l.length gc)) (N+1) (.int .i64 k) (.int .i64 n) (.int .u64 u) (.string s) (.slice va keys.length vc) (.slice ga l.length gc)):=Moved.fresh (HG3.out.trans HGW.out) hT (fun q hq=>by have h1:=HN.out;have h2:=hgN.out;rcases hq with rfl | rfl<;>omega)
    have hkvW:kD wr (N+2) (.slice va keys.length vc) keys:=HKV.out.grew HGW.out
    have hfin:jW (jH (wr.setCell ⟨g,5,none⟩ (.slice ga l.length gc)) (N+1) (.int .i64 k) (.int .i64 n) (.int .u64 u) (.string s) (.slice va keys.length vc) (.slice ga l.length gc)) w.heap.size (.mk k n u s keys l) (.agg #[.int .i64 k,.int .i64 n,.int .u64 u,.string s,.slice va keys.length vc,.slice ga l.length gc]) (jX w (jH (wr.setCell ⟨g,5,none⟩ (.slice ga l.length gc)) (N+1) (.int .i64 k) (.int .i64 n) (.int .u64 u) (.string s) (.slice va keys.length vc) (.slice ga l.length gc))):=by
     have h1:=HN.out
     have h2:=hgN.out
     have h3:g < w3.heap.size:=(Array.getElem?_eq_some_iff.1 kJ.out).1
     have h4:N+1 < w3.heap.size:=(Array.getElem?_eq_some_iff.1 HB2'.out).1
     refine zI.tree (((HE.out.wider (fun _ h=>h.elim)).kept hT (fun q hq=>?_) (fun _ h=>h))) ⟨HB.out.1,HB.out.2.1,HB.out.2.2.1,HB.out.2.2.2,hkz.out⟩ HG3.out.size ?_ (fun q hq=>(World.ownsRow.lt HKV.out q hq).2)
     ·rcases hq with rfl|rfl<;>omega
     ·refine kX (Moved.owns hT hkvW (fun q hq e=>?_)) (by omega)
      rcases e with rfl|rfl
      ·exact zM hkvW HROWW.out (by decide) hq
      ·exact zM hkvW HRESW.out (by decide) hq
    have HFIN:=zh (And.intro hfin hTW)
    clear hT hTW hfin hkvW
    go_wp2
    refine bodyPost_ret (v:=.agg #[.int .i64 k,.int .i64 n,.int .u64 u,.string s,.slice va keys.length vc,.slice ga l.length gc]) (by simp[results,Try.results51,go_sem,z0,z1,z2,z3,z4,z5,hne,hne2]) rfl ?_
    exact⟨_,rfl,HFIN.out.1,HFIN.out.2⟩
def KI (left jU:Nat):Obj:=.cells #[.int .i64 left,.int .i64 jU] 59 (0,0)
theorem V1 {w:World} {rb left jU:Nat} (h:w.heap[rb]? = some (KI left jU)) (p:Nat):(w.setCell ⟨rb,0,none⟩ (.int .i64 p)).heap[rb]? = some (KI p jU):=by
 have:=heap_setCell_same w rb 0 _ _ (.int .i64 p) h
 simpa [KI] using this
theorem QZ (jU left:Nat) (l:List Tr) (k:Nat) (h:k=l.length∨(jZ jU left (l.take k)).2=0):jZ jU left (l.take k)=jZ jU left l:=by
 rcases h with rfl|h
 ·rw[List.take_length]
 ·have:=Y2 jU (l.take k) (l.drop k) left h
  rw[List.take_append_drop] at this
  exact this.symm
theorem Y3 (jU left:Nat) (l:List Tr) (k p:Nat) (x:Tr) (hx:l[k]? = some x) (h:(jZ jU left (l.take k)).2=p+1) :
 jZ jU left (l.take (k+1))=((jZ jU left (l.take k)).1++[(zY jU p x).1],(zY jU p x).2):=by
 rw[List.take_add_one,hx]
 show jZ jU left (l.take k++[x])=_
 rw[KH,if_neg (by omega),h]
 rfl
theorem YL {l:List ByteArray} (h:∀s∈l,jI s.size) (many jU:Nat):∀s∈k6 l many jU,jI s.size:=by
 intro s hs
 obtain⟨y,hy,rfl⟩:=List.mem_map.1 hs
 have:=h y (List.mem_of_mem_take hy)
 unfold jI at *
 rw[q9]
 omega
theorem YM {s:ByteArray} (h:jI s.size) (jU:Nat):jI (zT s jU).size:=by unfold jI at *;rw[q9];omega
theorem Y4 (jU:Nat) (hlong:jU≤1000) (W:World) (rb:Nat) (hWrb:W.heap.size≤rb):∀(m:Nat) (t:Tr),t.size≤m→∀(v:Value) (w:World) (left:Nat),left≤4096→jL W t v→jC W w→w.heap[rb]? = some (KI left jU) →
 Calls Try.prog 43 #[bptr rb,v] w fun r w'=>∃v',r=.returned v'∧jW w' w.heap.size (zY jU left t).1 v' (jX w w')∧Moved (fun g=>g=rb) w w'∧w'.heap[rb]? = some (KI (zY jU left t).2 jU):=by
 intro m
 induction m with
 | zero=>intro t ht;have:=t.size_pos;omega
 | succ m ih=>
 intro t ht v w left hleft hn hW hrb
 obtain⟨k,n,u,s,keys,l⟩:=t
 simp only[jL] at hn
 obtain⟨hb,kv,lv,vs,rfl,hks,kS,kP⟩:=hn
 have hkl:vs.length=l.length:=kP.length
 have HKS:=zh hks
 have HK:=zh kP
 have HB:=zh hb
 obtain⟨a4,c4,rfl,hx1,hx2,hx3,hx4⟩:=hks
 clear hx1 hx2 hx3 hx4
 have j8:=zh kS
 obtain⟨a5,c5,rfl,hll,hc5,hx3,hx4⟩:=kS
 rw[hkl] at j8 hll⊢
 have kV:l.length≤9223372036854775807:=by unfold jI at hc5;omega
 clear hx3 hx4 hll
 have hkz:Hid (∀x∈keys,jI x.size):=fun x hx=>by
  obtain⟨_,_,_,_,_,_,h⟩:=HKS.out
  obtain⟨i,hi,rfl⟩:=List.mem_iff_getElem.1 hx
  exact (h i _ (List.getElem?_eq_getElem hi)).1
 have hsz:∀x∈l,x.size≤m:=fun x hx=>by have:=k9 hx;simp only[Tr.size] at ht;omega
 have HSZ:=zh hsz
 have HW0:=zh hW
 clear kP hb hsz ht hkl hc5 hW
 go_enter Try.func43,Try.ntmps43
 go_wp2_with fail
 have hb1:=heap_alloc_new w (.cells #[.int .i64 k,.int .i64 n,.int .u64 u,.string s,.slice a4 keys.length c4,.slice a5 l.length c5] 26)
 have hg1:=(jC.refl w).alloc (.cells #[.int .i64 k,.int .i64 n,.int .u64 u,.string s,.slice a4 keys.length c4,.slice a5 l.length c5] 26)
 have hs1:(w.alloc (.cells #[.int .i64 k,.int .i64 n,.int .u64 u,.string s,.slice a4 keys.length c4,.slice a5 l.length c5] 26)).heap.size=w.heap.size+1:=World.size_alloc _ _
 generalize (w.alloc (.cells #[.int .i64 k,.int .i64 n,.int .u64 u,.string s,.slice a4 keys.length c4,.slice a5 l.length c5] 26))=w1 at *
 have hb2:=heap_alloc_new w1 (.cells #[.int .i64 0,.int .i64 0,.int .u64 0,.string ⟨#[]⟩,.slice none 0 0,.slice none 0 0] 26)
 have hg2:=(jC.refl w1).alloc (.cells #[.int .i64 0,.int .i64 0,.int .u64 0,.string ⟨#[]⟩,.slice none 0 0,.slice none 0 0] 26)
 have hs2:(w1.alloc (.cells #[.int .i64 0,.int .i64 0,.int .u64 0,.string ⟨#[]⟩,.slice none 0 0,.slice none 0 0] 26)).heap.size=w1.heap.size+1:=World.size_alloc _ _
 rw[hs1] at hb2 hs2
 generalize (w1.alloc (.cells #[.int .i64 0,.int .i64 0,.int .u64 0,.string ⟨#[]⟩,.slice none 0 0,.slice none 0 0] 26))=w2 at *
 replace hb1:=hg2.heap hb1
 have hG:=hg1.trans hg2
 have hs2':w2.heap.size=w.heap.size+2:=by omega
 obtain⟨N,hN⟩:∃N,w.heap.size=N:=⟨_,rfl⟩
 have hrbN:Hid (rb < N):=by show _ < _;rw[← hN];exact (Array.getElem?_eq_some_iff.1 hrb).1
 replace hrb:=hG.heap hrb
 rw[hN] at hb1 hb2 hs2'⊢
 have hB2:Hid (N+2≤w2.heap.size):=by show _≤_;omega
 have c0:=jA hb1 0 _ rfl
 have c1:=jA hb1 1 _ rfl
 have c2:=jA hb1 2 _ rfl
 have c3:=jA hb1 3 _ rfl
 have c4':=jA hb1 4 _ rfl
 have r1:=jA hrb 1 _ rfl
 have HB1:=zh hb1
 have HB2:=zh hb2
 have HRB:=zh hrb
 have HG:=zh hG
 have HS2:=zh hs2'
 have HN:=zh hN
 have hsl:Hid (jI s.size):=HB.out.2.2.2
 clear hb1 hb2 hG hs1 hs2 hs2' hg1 hg2 hN hrb
 refine qD jC [[],[0],[],[2],[],[4],[],[6],[],[8],[9],[10],[7,11],[],[13],[],[15],[16],[17],[14,18],[1,3,5,12,19],[],[20,21]] [[(10,2),(11,3),(12,4),(13,5),(14,6),(15,7),(16,8),(17,9),(18,10),(19,11),(20,12),(21,13),(22,14),(23,15),(24,16),(25,17),(26,18),(27,19),(28,20),(5,21)],[(8,0),(10,2),(11,3),(12,4),(13,5),(14,6),(15,7),(16,8),(17,9),(18,10),(19,11),(20,12),(21,13),(22,14),(23,15),(24,16),(25,17),(26,18),(27,19),(5,21)],[(8,0),(9,1),(12,4),(13,5),(14,6),(15,7),(16,8),(17,9),(18,10),(19,11),(20,12),(21,13),(22,14),(23,15),(24,16),(25,17),(26,18),(27,19),(28,20),(5,21)],[(8,0),(9,1),(10,2),(12,4),(13,5),(14,6),(15,7),(16,8),(17,9),(18,10),(19,11),(20,12),(21,13),(22,14),(23,15),(24,16),(25,17),(26,18),(27,19),(5,21)],[(8,0),(9,1),(10,2),(11,3),(14,6),(15,7),(16,8),(17,9),(18,10),(19,11),(20,12),(21,13),(22,14),(23,15),(24,16),(25,17),(26,18),(27,19),(28,20),(5,21)],[(8,0),(9,1),(10,2),(11,3),(12,4),(14,6),(15,7),(16,8),(17,9),(18,10),(19,11),(20,12),(21,13),(22,14),(23,15),(24,16),(25,17),(26,18),(27,19),(5,21)],[(8,0),(9,1),(10,2),(11,3),(12,4),(13,5),(16,8),(17,9),(18,10),(19,11),(20,12),(21,13),(22,14),(23,15),(24,16),(25,17),(26,18),(27,19),(28,20),(5,21)],[(8,0),(9,1),(10,2),(11,3),(12,4),(13,5),(14,6),(16,8),(17,9),(18,10),(19,11),(21,13),(22,14),(23,15),(24,16),(25,17),(26,18),(27,19),(28,20),(5,21)],[(8,0),(9,1),(10,2),(11,3),(12,4),(13,5),(14,6),(15,7),(18,10),(19,11),(20,12),(21,13),(22,14),(23,15),(24,16),(25,17),(26,18),(27,19),(28,20),(5,21)],[(8,0),(9,1),(10,2),(11,3),(12,4),(13,5),(14,6),(15,7),(16,8),(19,11),(20,12),(21,13),(22,14),(23,15),(24,16),(25,17),(26,18),(27,19),(28,20),(5,21)],[(8,0),(9,1),(10,2),(11,3),(12,4),(13,5),(14,6),(15,7),(16,8),(17,9),(20,12),(21,13),(22,14),(23,15),(24,16),(25,17),(26,18),(27,19),(28,20),(5,21)],[(8,0),(9,1),(10,2),(11,3),(12,4),(13,5),(14,6),(15,7),(16,8),(17,9),(18,10),(21,13),(22,14),(23,15),(24,16),(25,17),(26,18),(27,19),(28,20),(5,21)],[(8,0),(9,1),(10,2),(11,3),(12,4),(13,5),(14,6),(15,7),(16,8),(17,9),(18,10),(19,11),(21,13),(22,14),(23,15),(24,16),(25,17),(26,18),(27,19),(5,21)],[(8,0),(9,1),(10,2),(11,3),(12,4),(13,5),(14,6),(15,7),(16,8),(17,9),(18,10),(19,11),(20,12),(23,15),(24,16),(25,17),(26,18),(27,19),(28,20),(5,21)],[(8,0),(9,1),(10,2),(11,3),(12,4),(13,5),(14,6),(15,7),(16,8),(17,9),(18,10),(19,11),(20,12),(21,13),(23,15),(24,16),(25,17),(26,18),(28,20),(5,21)],[(8,0),(9,1),(10,2),(11,3),(12,4),(13,5),(14,6),(15,7),(16,8),(17,9),(18,10),(19,11),(20,12),(21,13),(22,14),(25,17),(26,18),(27,19),(28,20),(5,21)],[(8,0),(9,1),(10,2),(11,3),(12,4),(13,5),(14,6),(15,7),(16,8),(17,9),(18,10),(19,11),(20,12),(21,13),(22,14),(23,15),(26,18),(27,19),(28,20),(5,21)],[(8,0),(9,1),(10,2),(11,3),(12,4),(13,5),(14,6),(15,7),(16,8),(17,9),(18,10),(19,11),(20,12),(21,13),(22,14),(23,15),(24,16),(27,19),(28,20),(5,21)],[(8,0),(9,1),(10,2),(11,3),(12,4),(13,5),(14,6),(15,7),(16,8),(17,9),(18,10),(19,11),(20,12),(21,13),(22,14),(23,15),(24,16),(25,17),(28,20),(5,21)],[(8,0),(9,1),(10,2),(11,3),(12,4),(13,5),(14,6),(15,7),(16,8),(17,9),(18,10),(19,11),(20,12),(21,13),(22,14),(23,15),(24,16),(25,17),(26,18),(5,21)],[(8,0),(9,1),(10,2),(11,3),(12,4),(13,5),(14,6),(15,7),(16,8),(17,9),(18,10),(19,11),(20,12),(21,13),(22,14),(23,15),(24,16),(25,17),(26,18),(27,19),(5,21)],[(8,0),(9,1),(10,2),(11,3),(12,4),(13,5),(14,6),(15,7),(16,8),(17,9),(18,10),(19,11),(20,12),(21,13),(22,14),(23,15),(24,16),(25,17),(26,18),(27,19),(28,20)],[(8,0),(9,1),(10,2),(11,3),(12,4),(13,5),(14,6),(15,7),(16,8),(17,9),(18,10),(19,11),(20,12),(21,13),(22,14),(23,15),(24,16),(25,17),(26,18),(27,19),(28,20),(5,21)]]
  [Is (.pointer (some ⟨N,0,none⟩)),Is (.int .i64 k),Is (.pointer (some ⟨N,1,none⟩)),Is (.int .i64 n),Is (.pointer (some ⟨N,2,none⟩)),Is (.int .u64 u),Is (.pointer (some ⟨N,3,none⟩)),Is (.string s),Is (bptr rb),Is (bptr rb),Is (.pointer (some ⟨rb,1,none⟩)),Is (.int .i64 jU),Is (.string (zT s jU)),Is (.pointer (some ⟨N,4,none⟩)),Is (.slice a4 keys.length c4),Is (bptr rb),Is (bptr rb),Is (.pointer (some ⟨rb,1,none⟩)),Is (.int .i64 jU),fun v w=>kD w (N+2) v (k6 keys 64 jU),fun v w=>∃kv',v=.agg #[.int .i64 k,.int .i64 n,.int .u64 u,.string (zT s jU),kv',.slice none 0 0]∧kD w (N+2) kv' (k6 keys 64 jU),fun v w=>∃g,v=.pointer (some ⟨g,0,none⟩)∧(N+2)≤g∧w.heap[g]? = some (rowN j7)]
  zk jC.trans jC.refl (jC.refl _).drew zk ⟨jG,jG,jG,jG,jG,jG,jG,jG,jG,jG,jG,jG,jG,jG,jG,jG,jG,jG,jG,fun _ _ _ hg h=>kD.grew h hg,fun _ _ _ hg h=>h.elim fun q h=>⟨q,h.1,kD.grew h.2 hg⟩,fun _ _ _ hg h=>h.elim fun q h=>⟨q,h.1,h.2.1,hg.heap h.2.2⟩,trivial⟩ rfl ⟨?_,?_,?_,?_,?_,?_,?_,?_,?_,?_,?_,?_,?_,?_,?_,?_,?_,?_,?_,?_,?_,?_,trivial⟩ ?_ rfl
 ·intro y w2' hG hD K hK
  simp only[jD,Act.put,zq1,zq2,zq3,zq4,zq5,Is] at hK⊢
  refine jF ?_
  go_simp
  exact hK _ _ _ rfl (jC.refl _) rfl
 ·intro y w2' hG hD K hK
  simp only[jM,zq4,zq5,Is,and_true] at hD
  have h0:=hD
  clear hD
  have dc0:=hG.cell c0
  have dc1:=hG.cell c1
  have dc2:=hG.cell c2
  have dc3:=hG.cell c3
  have dc4':=hG.cell c4'
  have dr1:=hG.cell r1
  simp only[jD,Act.put,zq1,zq2,zq3,zq4,zq5,Is] at hK⊢
  rw[h0] at hK⊢
  clear h0
  refine jF ?_
  go_simp
  exact hK _ _ _ rfl (jC.refl _) rfl
 ·intro y w2' hG hD K hK
  simp only[jD,Act.put,zq1,zq2,zq3,zq4,zq5,Is] at hK⊢
  refine jF ?_
  go_simp
  exact hK _ _ _ rfl (jC.refl _) rfl
 ·intro y w2' hG hD K hK
  simp only[jM,zq4,zq5,Is,and_true] at hD
  have h2:=hD
  clear hD
  have dc0:=hG.cell c0
  have dc1:=hG.cell c1
  have dc2:=hG.cell c2
  have dc3:=hG.cell c3
  have dc4':=hG.cell c4'
  have dr1:=hG.cell r1
  simp only[jD,Act.put,zq1,zq2,zq3,zq4,zq5,Is] at hK⊢
  rw[h2] at hK⊢
  clear h2
  refine jF ?_
  go_simp
  exact hK _ _ _ rfl (jC.refl _) rfl
 ·intro y w2' hG hD K hK
  simp only[jD,Act.put,zq1,zq2,zq3,zq4,zq5,Is] at hK⊢
  refine jF ?_
  go_simp
  exact hK _ _ _ rfl (jC.refl _) rfl
 ·intro y w2' hG hD K hK
  simp only[jM,zq4,zq5,Is,and_true] at hD
  have h4:=hD
  clear hD
  have dc0:=hG.cell c0
  have dc1:=hG.cell c1
  have dc2:=hG.cell c2
  have dc3:=hG.cell c3
  have dc4':=hG.cell c4'
  have dr1:=hG.cell r1
  simp only[jD,Act.put,zq1,zq2,zq3,zq4,zq5,Is] at hK⊢
  rw[h4] at hK⊢
  clear h4
  refine jF ?_
  go_simp
  exact hK _ _ _ rfl (jC.refl _) rfl
 ·intro y w2' hG hD K hK
  simp only[jD,Act.put,zq1,zq2,zq3,zq4,zq5,Is] at hK⊢
  refine jF ?_
  go_simp
  exact hK _ _ _ rfl (jC.refl _) rfl
 ·intro y w2' hG hD K hK
  simp only[jM,zq4,zq5,Is,and_true] at hD
  have h6:=hD
  clear hD
  have dc0:=hG.cell c0
  have dc1:=hG.cell c1
  have dc2:=hG.cell c2
  have dc3:=hG.cell c3
  have dc4':=hG.cell c4'
  have dr1:=hG.cell r1
  simp only[jD,Act.put,zq1,zq2,zq3,zq4,zq5,Is] at hK⊢
  rw[h6] at hK⊢
  clear h6
  refine jF ?_
  go_simp
  exact hK _ _ _ rfl (jC.refl _) rfl
 ·intro y w2' hG hD K hK
  simp only[jD,Act.put,zq1,zq2,zq3,zq4,zq5,Is] at hK⊢
  refine jF ?_
  go_simp
  exact hK _ _ _ rfl (jC.refl _) rfl
 ·intro y w2' hG hD K hK
  simp only[jM,zq4,zq5,Is,and_true] at hD
  have h8:=hD
  clear hD
  simp only[jD,Act.put,zq1,zq2,zq3,zq4,zq5,Is] at hK⊢
  rw[h8] at hK⊢
  clear h8
  refine jF ?_
  go_simp
  exact hK _ _ _ rfl (jC.refl _) rfl
 ·intro y w2' hG hD K hK
  simp only[jM,zq4,zq5,Is,and_true] at hD
  have h9:=hD
  clear hD
  simp only[jD,Act.put,zq1,zq2,zq3,zq4,zq5,Is] at hK⊢
  rw[h9] at hK⊢
  clear h9
  refine jF ?_
  go_simp
  exact hK _ _ _ rfl (jC.refl _) rfl
 ·intro y w2' hG hD K hK
  simp only[jM,zq4,zq5,Is,and_true] at hD
  have h10:=hD
  clear hD
  have dc0:=hG.cell c0
  have dc1:=hG.cell c1
  have dc2:=hG.cell c2
  have dc3:=hG.cell c3
  have dc4':=hG.cell c4'
  have dr1:=hG.cell r1
  simp only[jD,Act.put,zq1,zq2,zq3,zq4,zq5,Is] at hK⊢
  rw[h10] at hK⊢
  clear h10
  refine jF ?_
  go_simp
  exact hK _ _ _ rfl (jC.refl _) rfl
 ·intro y w2' hG hD K hK
  simp only[jM,zq4,zq5,Is,and_true] at hD
  have h7:=hD.1
  have h11:=hD.2
  clear hD
  simp only[jD,Act.put,zq1,zq2,zq3,zq4,zq5,Is] at hK⊢
  rw[h7,h11] at hK⊢
  clear h7 h11
  refine jF ?_
  go_simp
  refine (K5 _ s jU hsl.out hlong).mono ?_
  rintro r w3 ⟨rfl,rfl⟩
  exact hK _ _ _ rfl (jC.refl _) rfl
 ·intro y w2' hG hD K hK
  simp only[jD,Act.put,zq1,zq2,zq3,zq4,zq5,Is] at hK⊢
  refine jF ?_
  go_simp
  exact hK _ _ _ rfl (jC.refl _) rfl
 ·intro y w2' hG hD K hK
  simp only[jM,zq4,zq5,Is,and_true] at hD
  have h13:=hD
  clear hD
  have dc0:=hG.cell c0
  have dc1:=hG.cell c1
  have dc2:=hG.cell c2
  have dc3:=hG.cell c3
  have dc4':=hG.cell c4'
  have dr1:=hG.cell r1
  simp only[jD,Act.put,zq1,zq2,zq3,zq4,zq5,Is] at hK⊢
  rw[h13] at hK⊢
  clear h13
  refine jF ?_
  go_simp
  exact hK _ _ _ rfl (jC.refl _) rfl
 ·intro y w2' hG hD K hK
  simp only[jD,Act.put,zq1,zq2,zq3,zq4,zq5,Is] at hK⊢
  refine jF ?_
  go_simp
  exact hK _ _ _ rfl (jC.refl _) rfl
 ·intro y w2' hG hD K hK
  simp only[jM,zq4,zq5,Is,and_true] at hD
  have h15:=hD
  clear hD
  simp only[jD,Act.put,zq1,zq2,zq3,zq4,zq5,Is] at hK⊢
  rw[h15] at hK⊢
  clear h15
  refine jF ?_
  go_simp
  exact hK _ _ _ rfl (jC.refl _) rfl
 ·intro y w2' hG hD K hK
  simp only[jM,zq4,zq5,Is,and_true] at hD
  have h16:=hD
  clear hD
  simp only[jD,Act.put,zq1,zq2,zq3,zq4,zq5,Is] at hK⊢
  rw[h16] at hK⊢
  clear h16
  refine jF ?_
  go_simp
  exact hK _ _ _ rfl (jC.refl _) rfl
 ·intro y w2' hG hD K hK
  simp only[jM,zq4,zq5,Is,and_true] at hD
  have h17:=hD
  clear hD
  have dc0:=hG.cell c0
  have dc1:=hG.cell c1
  have dc2:=hG.cell c2
  have dc3:=hG.cell c3
  have dc4':=hG.cell c4'
  have dr1:=hG.cell r1
  simp only[jD,Act.put,zq1,zq2,zq3,zq4,zq5,Is] at hK⊢
  rw[h17] at hK⊢
  clear h17
  refine jF ?_
  go_simp
  exact hK _ _ _ rfl (jC.refl _) rfl
 ·intro y w2' hG hD K hK
  simp only[jM,zq4,zq5,Is,and_true] at hD
  have h14:=hD.1
  have h18:=hD.2
  clear hD
  simp only[jD,Act.put,zq1,zq2,zq3,zq4,zq5,Is] at hK⊢
  rw[h14,h18] at hK⊢
  clear h14 h18
  refine jF ?_
  go_simp
  refine (V0 64 jU _ _ _ (HKS.out.grew (HW0.out.trans (HG.out.trans hG))) (by omega) hlong).mono ?_
  rintro r w3 ⟨v',rfl,hv,hg⟩
  exact hK _ _ _ rfl hg (kX hv (Nat.le_trans hB2.out hG.size))
 ·intro y w2' hG hD K hK
  simp only[jM,zq4,zq5,Is,and_true] at hD
  have h1:=hD.1
  have h3:=hD.2.1
  have h5:=hD.2.2.1
  have h12:=hD.2.2.2.1
  have h19:=hD.2.2.2.2
  clear hD
  simp only[jD,Act.put,zq1,zq2,zq3,zq4,zq5,Is] at hK⊢
  rw[h1,h3,h5,h12] at hK⊢
  clear h1 h3 h5 h12
  refine jF ?_
  refine Exists.elim (jT h19) fun va h=>Exists.elim h fun vc h=>?_
  have hs:=h.1
  clear h
  rw[hs] at hK h19⊢
  go_simp
  exact hK _ _ _ rfl (jC.refl _) ⟨_,rfl,h19⟩
 ·intro y w2' hG hD K hK
  simp only[jD,Act.put,zq1,zq2,zq3,zq4,zq5,Is] at hK⊢
  refine jF ?_
  go_simp
  exact hK _ _ _ rfl ((jC.refl _).alloc _) ⟨_,rfl,Nat.le_trans hB2.out hG.size,heap_alloc_new _ _⟩
 ·intro y w2' hG hF K hK
  simp only[zH,Is,and_true,Nat.reduceAdd] at hF
  have h0:=hF.1
  have h1:=hF.2.1
  have h2:=hF.2.2.1
  have h3:=hF.2.2.2.1
  have h4:=hF.2.2.2.2.1
  have h5:=hF.2.2.2.2.2.1
  have h6:=hF.2.2.2.2.2.2.1
  have h7:=hF.2.2.2.2.2.2.2.1
  have h8:=hF.2.2.2.2.2.2.2.2.1
  have h9:=hF.2.2.2.2.2.2.2.2.2.1
  have h10:=hF.2.2.2.2.2.2.2.2.2.2.1
  have h11:=hF.2.2.2.2.2.2.2.2.2.2.2.1
  have h12:=hF.2.2.2.2.2.2.2.2.2.2.2.2.1
  have h13:=hF.2.2.2.2.2.2.2.2.2.2.2.2.2.1
  have h14:=hF.2.2.2.2.2.2.2.2.2.2.2.2.2.2.1
  have h15:=hF.2.2.2.2.2.2.2.2.2.2.2.2.2.2.2.1
  have h16:=hF.2.2.2.2.2.2.2.2.2.2.2.2.2.2.2.2.1
  have h17:=hF.2.2.2.2.2.2.2.2.2.2.2.2.2.2.2.2.2.1
  have h18:=hF.2.2.2.2.2.2.2.2.2.2.2.2.2.2.2.2.2.2.1
  have h19:=hF.2.2.2.2.2.2.2.2.2.2.2.2.2.2.2.2.2.2.2.1
  have h20:=hF.2.2.2.2.2.2.2.2.2.2.2.2.2.2.2.2.2.2.2.2.1
  have h21:=hF.2.2.2.2.2.2.2.2.2.2.2.2.2.2.2.2.2.2.2.2.2
  clear hF
  simp only[yK]
  simp only[jD,Act.put,zq1,zq2,zq3,zq4,zq5,Is] at hK⊢
  rw[h0,h1,h2,h3,h4,h5,h6,h7,h8,h9,h10,h11,h12,h13,h14,h15,h16,h17,h18]
  clear h0 h1 h2 h3 h4 h5 h6 h7 h8 h9 h10 h11 h12 h13 h14 h15 h16 h17 h18
  refine jF ?_
  refine Exists.elim h20 fun kv' h=>?_
  have hs20:=h.1
  have hkv:=h.2
  refine Exists.elim (jT hkv) fun va h=>Exists.elim h fun vc h=>?_
  have hs:=h.1
  rw[hs] at hkv hs20
  clear h h20 hs h19
  refine Exists.elim h21 fun g h=>?_
  have hs21:=h.1
  have hgB:=h.2.1
  have jP:=h.2.2
  clear h h21
  rw[hs20,hs21]
  clear hs20 hs21
  have f0:=jB jP 0
  have f1:=jB jP 1
  have f2:=jB jP 2
  have f3:=jB jP 3
  have f4:=jB jP 4
  have f5:=jB jP 5
  have d0:=jA jP 0 _ rfl
  have d1:=jA jP 1 _ rfl
  have d2:=jA jP 2 _ rfl
  have d3:=jA jP 3 _ rfl
  have d4:=jA jP 4 _ rfl
  have d5:=jA jP 5 _ rfl
  have hrow2:=vB jP (.int .i64 k) (.int .i64 n) (.int .u64 u) (.string (zT s jU)) (.slice va (k6 keys 64 jU).length vc) (.slice none 0 0)
  have hmv:=kC w2' g (.int .i64 k) (.int .i64 n) (.int .u64 u) (.string (zT s jU)) (.slice va (k6 keys 64 jU).length vc) (.slice none 0 0)
  have hkv2:kD _ (N+2) (.slice va (k6 keys 64 jU).length vc) (k6 keys 64 jU):=Moved.owns hmv hkv (fun q hq e=>zM hkv jP (by decide) (by rw[hq,e]))
  have hgr:=Moved.fresh hG hmv (fun q e=>by have:=HS2.out;omega)
  clear hG jP hmv hkv
  go_simp
  refine hK _ _ ?_
  clear f0 f1 f2 f3 f4 f5 d0 d1 d2 d3 d4 d5 hK
  generalize ((((((w2'.setCell ⟨g,0,none⟩ (.int .i64 k)).setCell ⟨g,1,none⟩ (.int .i64 n)).setCell ⟨g,2,none⟩ (.int .u64 u)).setCell ⟨g,3,none⟩ (.string (zT s jU))).setCell ⟨g,4,none⟩ (.slice va (k6 keys 64 jU).length vc)).setCell ⟨g,5,none⟩ (.slice none 0 0))=w3 at *
  have kJ:=zh hrow2
  have HKV:=zh hkv2
  have HB1':=zh (hgr.heap HB1.out)
  have HB2':=zh (hgr.heap HB2.out)
  have HRB':=zh (hgr.heap HRB.out)
  have HG3:=zh (HG.out.trans hgr)
  clear hrow2 hkv2 HB1 HB2 HRB HG c0 c1 c2 c3 c4' r1
  have hgN:Hid (N+2≤g):=hgB
  clear hgB
  generalize y 19=y19
  have hkz2:Hid (∀x∈k6 keys 64 jU,jI x.size):=YL hkz.out 64 jU
  generalize hK2:k6 keys 64 jU=keys2 at *
  have HK2:=zh hK2
  clear hK2
  have hsl2:Hid (jI (zT s jU).size):=YM hsl.out jU
  generalize hSS:zT s jU=s2 at *
  have HSS:=zh hSS
  clear hSS
  go_wp2_with fail
  go_loopw [6,7] (fun v i wr=>∃(kk lf:Nat),kk≤l.length∧lf≤4096∧i=.int .i64 kk∧Hid (zI (fun g=>g=rb) w3 wr v (jZ jU left (l.take kk)).1∧(jZ jU left (l.take kk)).2=lf∧wr.heap[rb]? = some (KI lf jU))) (fun _ i _=>l.length - (intOf i).toNat)
  case atStart=>exact⟨0,left,Nat.zero_le _,hleft,rfl,by
   show _∧_∧_
   exact⟨by simpa [jZ] using zI.start _ _,by simp[jZ],HRB'.out⟩⟩
  case round=>
   obtain⟨kk,lf,hkk,hlf,rfl,HW⟩:=hrel
   have hm3:Moved (fun g=>g=rb) w3 wr:=by obtain⟨_,_,_,_,_,hm⟩:=HW.out.1;exact hm
   have HM:=zh hm3
   have b5:=jA (hm3.heap HB1'.out (by have:=hrbN.out;omega)) 5 _ rfl
   have q0:=jA HW.out.2.2 0 _ rfl
   clear hm3
   by_cases hgo:kk < l.length∧0 < lf
   ·obtain⟨hlt,hpos⟩:=hgo
    obtain⟨p,rfl⟩:∃p,lf=p+1:=⟨lf - 1,by omega⟩
    obtain⟨x,hx⟩:∃x,l[kk]? = some x:=⟨_,List.getElem?_eq_getElem hlt⟩
    obtain⟨xv,hxv,hnx⟩:=HK.out.get hx
    have hxm:x∈l:=List.mem_of_getElem? hx
    have HX:=zh (Y3 jU left l kk p x hx HW.out.2.1)
    have hxs:=HSZ.out x hxm
    have hWr:Hid (jC W wr):=Moved.fresh (HW0.out.trans HG3.out) HM.out (fun g h=>by omega)
    have HNX:=zh hnx
    obtain⟨b,off,rfl,hc6⟩:∃b off,a5=some ⟨b,off,none⟩∧kQ wr b (off+kk*6) xv:=by
     obtain⟨a,c,e,_,_,_,h⟩:=j8.out
     injection e with e1 e2 e3
     subst e1
     obtain⟨b,off,e,h6⟩:=h kk xv hxv
     exact⟨b,off,e,h6.grew hWr.out⟩
    obtain⟨xk,xn,xu,xs,xa4,xn4,xc4,xa5,xn5,xc5,rfl⟩:=hnx.node6
    have hmS:Moved (fun g=>g=rb) wr (wr.setCell ⟨rb,0,none⟩ (.int .i64 p)):=Moved.setCell (S:=fun g=>g=rb) (p:=⟨rb,0,none⟩) (Moved.refl _ wr) (fun _=>rfl) _
    obtain⟨e0,e1,e2,e3,e4,e5⟩:=hc6.get
    have qf:=jB HW.out.2.2 0
    have yD:(kk:Int) < l.length:=by omega
    have HROOM:=zh (V1 HW.out.2.2 p)
    have hne:¬b=rb:=by
     have h0:=(hc6.grew (jC.refl _)).get.1
     obtain⟨a,c,e,_,_,_,h⟩:=j8.out
     injection e with e1 e2 e3
     obtain⟨b',off',e,h6⟩:=h kk _ hxv
     rw[← e1] at e
     injection e with e
     injection e with e
     have:=World.block_lt_of_cell? W _ h6.get.1
     simp only at this
     omega
    have hne2:¬rb=b:=fun e=>hne e.symm
    have hrN:¬rb=N:=by have:=hrbN.out;omega
    have hrN2:¬N=rb:=by have:=hrbN.out;omega
    clear hc6 hx hxv hnx hxm hpos
    have HMS:=zh hmS
    have hrb3:Hid (rb < w3.heap.size):=(Array.getElem?_eq_some_iff.1 HRB'.out).1
    have HWS:Hid (jC W (wr.setCell ⟨rb,0,none⟩ (.int .i64 p))):=Moved.fresh hWr.out hmS (fun g h=>by omega)
    have HWK:Hid (zI (fun g=>g=rb) w3 (wr.setCell ⟨rb,0,none⟩ (.int .i64 p)) u6 (jZ jU left (l.take kk)).1):=HW.out.1.kept hmS (fun g h=>by have:=hrb3.out;omega) (fun _ h=>h)
    clear hmS
    go_wp2_with fail
    refine (ih x hxs _ _ p (by omega) HNX.out HWS.out HROOM.out).mono ?_
    rintro r w4 ⟨xv,rfl,hox,hm4,hr4⟩
    obtain⟨yk,yn,yu,ys,ya4,yn4,yc4,ya5,yn5,yc5,rfl⟩:=hox.node6
    have HOX:=zh hox
    have HM4:=zh hm4
    have HR4:=zh hr4
    obtain⟨vs4,S4,q1,q2,q3,q4⟩:=HWK.out
    obtain⟨ga,gc,rfl,hz1,hz2,hz3⟩:=HWK.out.form
    have HLN:Hid ((jZ jU left (l.take kk)).1.length≤4096):=by
     show _≤_
     have h1:=yM (jZ jU left (l.take kk)).1
     have h2:=vA jU (l.take kk) left
     omega
    have HV4:Hid (vs4.length≤4096):=by show _≤_;rw[q2.length];exact HLN.out
    have HLF:Hid ((zY jU p x).2≤4096):=by
     show _≤_
     have h1:=vX jU x p
     have h2:=(zY jU p x).1.size_pos
     omega
    have HQ1:=zh q1
    have HQ2:=zh q2
    have HQ3:=zh q3
    have HQ4:=zh q4
    have HSW:Hid (w3.heap.size≤w4.heap.size):=Nat.le_trans q4.size hm4.size
    have HON:Hid (∀o,kK (w4.alloc o) w3.heap.size (.slice ga (jZ jU left (l.take kk)).1.length gc) vs4):=fun o=>kK.grew ⟨Moved.owns hm4 q1.1 (fun g hg e=>by have:=(World.ownsRow.lt q1.1 g hg).1;have:=hrb3.out;omega),q1.2⟩ ((jC.refl _).alloc o)
    have HSZ4:Hid (∀o,w3.heap.size≤(w4.alloc o).heap.size):=fun o=>Nat.le_trans HSW.out ((jC.refl w4).alloc o).size
    clear q0 q1 q2 q3 q4 hz1 hz2 hz3 hox hm4 hr4 HW HWK e0 e1 e2 e3 e4 e5 b5 qf
    generalize (jZ jU left (l.take kk)).1=L at *
    go_wp2_with (at_builtin;refine zL rfl _ _ rfl w3.heap.size _ vs4 rfl (HON.out _) _ _ (.agg #[.int .i64 yk,.int .i64 yn,.int .u64 yu,.string ys,.slice ya4 yn4 yc4,.slice ya5 yn5 yc5]) rfl (heap_alloc_new _ _) ⟨_,_,_,_,_,_,_,_,_,_,rfl⟩ (by have:=HV4.out;omega) (HSZ4.out _) ?_;intro v' w5 kE hgr hnx;obtain⟨va2,vc2,rfl,hz1,hz2,hz3⟩:=jT kE.1;have HG5:=zh (And.intro (zI.step (R:=fun g=>g=rb) (fun g h=>by have:=hrb3.out;omega) vs4 S4 HQ2.out HQ1.out HQ3.out HQ4.out HOX.out HM4.out _ kE hgr hnx) ((Moved.of_grown hgr).heap (((jC.refl w4).alloc _).heap HR4.out) (fun e=>by have:=(World.ownsRow.lt HQ1.out.1 rb e.symm).1;have:=hrb3.out;omega)));clear kE hgr hnx hz1 hz2 hz3)
    go_roundw
    case rel=>
     refine⟨kk+1,(zY jU p x).2,by omega,HLF.out,by go_num,?_⟩
     show _∧_∧_
     rw[HX.out]
     have hh:=HG5.out
     rw[List.length_append] at hh
     exact⟨hh.1,rfl,hh.2⟩
    case measure=>simp[intOf];omega
   ·have hend:=QZ jU left l kk (by have:=HW.out.2.1;omega)
    have HE:=HW.out
    rw[hend] at HE
    have HEH:=zh HE
    have jP:=HM.out.heap kJ.out (by have:=hgN.out;have:=hrbN.out;omega)
    have jR:=HM.out.heap HB2'.out (by have:=hrbN.out;omega)
    have HROWW:=zh jP
    have HRESW:=zh jR
    have f5:=jB jP 5
    have r0:=jB jR 0
    have r1:=jB jR 1
    have r2:=jB jR 2
    have r3:=jB jR 3
    have r4:=jB jR 4
    have r5:=jB jR 5
    have d0:=jA jP 0 _ rfl
    have d1:=jA jP 1 _ rfl
    have d2:=jA jP 2 _ rfl
    have d3:=jA jP 3 _ rfl
    have d4:=jA jP 4 _ rfl
    have d5:=jA jP 5 _ rfl
    have z0:=jA jR 0 _ rfl
    have z1:=jA jR 1 _ rfl
    have z2:=jA jR 2 _ rfl
    have z3:=jA jR 3 _ rfl
    have z4:=jA jR 4 _ rfl
    have z5:=jA jR 5 _ rfl
    have hne:¬g=N+1:=by have:=hgN.out;omega
    have hne2:¬N+1=g:=by have:=hgN.out;omega
    obtain⟨ga,gc,rfl,hz1,hz2,hz3⟩:=HE.1.form
    obtain⟨L,hL⟩:∃L,(jZ jU left l).1=L:=⟨_,rfl⟩
    have hT:=vC wr g (N+1) (.int .i64 k) (.int .i64 n) (.int .u64 u) (.string s2) (.slice va keys2.length vc) (.slice ga (jZ jU left l).1.length gc) (.slice ga (jZ jU left l).1.length gc)
    have hWW:Moved (fun q=>q=rb) w wr:=(Moved.of_grew HG3.out).trans' HM.out
    have hMW:Moved (fun q=>q=rb) w (jH (wr.setCell ⟨g,5,none⟩ (.slice ga (jZ jU left l).1.length gc)) (N+1) (.int .i64 k) (.int .i64 n) (.int .u64 u) (.string s2) (.slice va keys2.length vc) (.slice ga (jZ jU left l).1.length gc)):=hWW.trans hT (fun j hj e=>by have h1:=HN.out;have h2:=hgN.out;rcases e with rfl | rfl<;>omega)
    have hkvW:kD wr (N+2) (.slice va keys2.length vc) keys2:=Moved.owns HM.out HKV.out (fun q hq e=>by have:=(World.ownsRow.lt HKV.out q hq).1;have:=hrbN.out;omega)
    have hrbW:=hT.heap HE.2.2 (fun e=>by have:=hgN.out;have:=hrbN.out;omega)
    have hfin:jW (jH (wr.setCell ⟨g,5,none⟩ (.slice ga (jZ jU left l).1.length gc)) (N+1) (.int .i64 k) (.int .i64 n) (.int .u64 u) (.string s2) (.slice va keys2.length vc) (.slice ga (jZ jU left l).1.length gc)) w.heap.size (.mk k n u s2 keys2 (jZ jU left l).1) (.agg #[.int .i64 k,.int .i64 n,.int .u64 u,.string s2,.slice va keys2.length vc,.slice ga (jZ jU left l).1.length gc]) (jX w (jH (wr.setCell ⟨g,5,none⟩ (.slice ga (jZ jU left l).1.length gc)) (N+1) (.int .i64 k) (.int .i64 n) (.int .u64 u) (.string s2) (.slice va keys2.length vc) (.slice ga (jZ jU left l).1.length gc))):=by
     have h1:=HN.out
     have h2:=hgN.out
     have h3:g < w3.heap.size:=(Array.getElem?_eq_some_iff.1 kJ.out).1
     have h4:N+1 < w3.heap.size:=(Array.getElem?_eq_some_iff.1 HB2'.out).1
     refine zI.tree (((HE.1.wider (T:=fun q=>q=rb∨(q=g∨q=N+1)) (fun _ h=>.inl h)).kept hT (fun q hq=>?_) (fun _ h=>.inr h))) ⟨HB.out.1,HB.out.2.1,HB.out.2.2.1,hsl2.out,hkz2.out⟩ HG3.out.size ?_ (fun q hq=>(World.ownsRow.lt HKV.out q hq).2)
     ·rcases hq with rfl|rfl<;>omega
     ·refine kX (Moved.owns hT hkvW (fun q hq e=>?_)) (by omega)
      rcases e with rfl|rfl
      ·exact zM hkvW HROWW.out (by decide) hq
      ·exact zM hkvW HRESW.out (by decide) hq
    have HFIN:Hid (jW (jH (wr.setCell ⟨g,5,none⟩ (.slice ga (jZ jU left l).1.length gc)) (N+1) (.int .i64 k) (.int .i64 n) (.int .u64 u) (.string s2) (.slice va keys2.length vc) (.slice ga (jZ jU left l).1.length gc)) w.heap.size (zY jU left (.mk k n u s keys l)).1 (.agg #[.int .i64 k,.int .i64 n,.int .u64 u,.string s2,.slice va keys2.length vc,.slice ga (jZ jU left l).1.length gc]) (jX w (jH (wr.setCell ⟨g,5,none⟩ (.slice ga (jZ jU left l).1.length gc)) (N+1) (.int .i64 k) (.int .i64 n) (.int .u64 u) (.string s2) (.slice va keys2.length vc) (.slice ga (jZ jU left l).1.length gc))) ∧
     Moved (fun q=>q=rb) w (jH (wr.setCell ⟨g,5,none⟩ (.slice ga (jZ jU left l).1.length gc)) (N+1) (.int .i64 k) (.int .i64 n) (.int .u64 u) (.string s2) (.slice va keys2.length vc) (.slice ga (jZ jU left l).1.length gc))∧(jH (wr.setCell ⟨g,5,none⟩ (.slice ga (jZ jU left l).1.length gc)) (N+1) (.int .i64 k) (.int .i64 n) (.int .u64 u) (.string s2) (.slice va keys2.length vc) (.slice ga (jZ jU left l).1.length gc)).heap[rb]? = some (KI (zY jU left (.mk k n u s keys l)).2 jU)):=by
     show _∧_∧_
     refine⟨?_,hMW,?_⟩
     ·simp only[zY]
      rw[HK2.out,HSS.out]
      exact hfin
     ·simp only[zY]
      rw[HE.2.1]
      exact hrbW
    clear hT hMW hWW hfin hkvW hrbW hend HE jP jR hz1 hz2 hz3
    rw[hL] at *
    by_cases hlt:kk < l.length
    ·obtain rfl:lf=0:=by omega
     clear hgo
     go_wp2
     refine bodyPost_ret (v:=.agg #[.int .i64 k,.int .i64 n,.int .u64 u,.string s2,.slice va keys2.length vc,.slice ga L.length gc]) (by simp[results,Try.results43,go_sem,z0,z1,z2,z3,z4,z5,hne,hne2]) rfl ?_
     exact⟨_,rfl,HFIN.out⟩
    ·clear hgo
     have hge:¬(kk:Int) < l.length:=by omega
     go_wp2
     refine bodyPost_ret (v:=.agg #[.int .i64 k,.int .i64 n,.int .u64 u,.string s2,.slice va keys2.length vc,.slice ga L.length gc]) (by simp[results,Try.results43,go_sem,z0,z1,z2,z3,z4,z5,hne,hne2]) rfl ?_
     exact⟨_,rfl,HFIN.out⟩
theorem qL (x y:ByteArray):(x.toList == y.toList)=decide (x=y):=by
 rw[Bool.eq_iff_iff,beq_iff_eq,decide_eq_true_eq,ByteArray.toList_eq,ByteArray.toList_eq]
 exact⟨fun h=>bytes_inj h,fun h=>by rw[h]⟩
theorem JH (nodes jU:Nat) (hn1:1≤nodes) (hn:nodes≤4096) (hlong:jU≤1000) (t:Tr) (v:Value) (w:World) (h:jL w t v) :
 Calls Try.prog 27 #[v,.int .i64 nodes,.int .i64 jU] w fun r w'=>∃v',r=.returned v'∧jW w' w.heap.size (zY jU (nodes - 1) t).1 v' (jX w w')∧jC w w':=by
 have HNA:=zh h
 obtain⟨k,n,u,s,a4,n4,c4,a5,n5,c5,rfl⟩:=h.node6
 clear h
 obtain⟨p,rfl⟩:∃p,nodes=p+1:=⟨nodes - 1,by omega⟩
 go_enter Try.func27,Try.ntmps27
 go_wp2_with fail
 have hb2:=heap_alloc_new (w.alloc (.cells #[.int .i64 k,.int .i64 n,.int .u64 u,.string s,.slice a4 n4 c4,.slice a5 n5 c5] 26)) (.cells #[.int .i64 0,.int .i64 0,.int .u64 0,.string ⟨#[]⟩,.slice none 0 0,.slice none 0 0] 26)
 have hg2:=((jC.refl w).alloc (.cells #[.int .i64 k,.int .i64 n,.int .u64 u,.string s,.slice a4 n4 c4,.slice a5 n5 c5] 26)).alloc (.cells #[.int .i64 0,.int .i64 0,.int .u64 0,.string ⟨#[]⟩,.slice none 0 0,.slice none 0 0] 26)
 have hs2:((w.alloc (.cells #[.int .i64 k,.int .i64 n,.int .u64 u,.string s,.slice a4 n4 c4,.slice a5 n5 c5] 26)).alloc (.cells #[.int .i64 0,.int .i64 0,.int .u64 0,.string ⟨#[]⟩,.slice none 0 0,.slice none 0 0] 26)).heap.size=w.heap.size+1+1:=by rw[World.size_alloc,World.size_alloc]
 rw[World.size_alloc] at hb2
 generalize ((w.alloc (.cells #[.int .i64 k,.int .i64 n,.int .u64 u,.string s,.slice a4 n4 c4,.slice a5 n5 c5] 26)).alloc (.cells #[.int .i64 0,.int .i64 0,.int .u64 0,.string ⟨#[]⟩,.slice none 0 0,.slice none 0 0] 26))=w2 at *
 have hb3:=heap_alloc_new w2 (.cells #[.int .i64 p,.int .i64 jU] 59)
 have hg3:=(jC.refl w2).alloc (.cells #[.int .i64 p,.int .i64 jU] 59)
 have hs3:(w2.alloc (.cells #[.int .i64 p,.int .i64 jU] 59)).heap.size=w2.heap.size+1:=World.size_alloc _ _
 rw[hs2] at hb3 hs3
 generalize (w2.alloc (.cells #[.int .i64 p,.int .i64 jU] 59))=w3 at *
 have HB2:=zh (hg3.heap hb2)
 have HG3:=zh (hg2.trans hg3)
 obtain⟨N,hN⟩:∃N,w.heap.size=N:=⟨_,rfl⟩
 rw[hN] at hb3 HB2 hs3⊢
 have HN:=zh hN
 have HS3:=zh hs3
 have hroom:w3.heap[N+1+1]? = some (KI p jU):=hb3
 clear hb2 hb3 hg2 hg3 hs2 hs3 hN
 refine (Y4 jU hlong w (N+1+1) (by have:=HN.out;omega) t.size t (Nat.le_refl _) _ _ p (by omega) HNA.out HG3.out hroom).mono ?_
 rintro r w4 ⟨v',rfl,ho,hm,_⟩
 obtain⟨yk,yn,yu,ys,ya4,yn4,yc4,ya5,yn5,yc5,rfl⟩:=ho.node6
 have jR:=hm.heap HB2.out (by omega)
 have r0:=jB jR 0
 have r1:=jB jR 1
 have r2:=jB jR 2
 have r3:=jB jR 3
 have r4:=jB jR 4
 have r5:=jB jR 5
 have z0:=jA jR 0 _ rfl
 have z1:=jA jR 1 _ rfl
 have z2:=jA jR 2 _ rfl
 have z3:=jA jR 3 _ rfl
 have z4:=jA jR 4 _ rfl
 have z5:=jA jR 5 _ rfl
 have hst:=kC w4 (N+1) (.int .i64 yk) (.int .i64 yn) (.int .u64 yu) (.string ys) (.slice ya4 yn4 yc4) (.slice ya5 yn5 yc5)
 have hGW:jC w w4:=Moved.fresh HG3.out hm (fun g h=>by have:=HN.out;omega)
 have hGF:jC w (jH w4 (N+1) (.int .i64 yk) (.int .i64 yn) (.int .u64 yu) (.string ys) (.slice ya4 yn4 yc4) (.slice ya5 yn5 yc5)):=Moved.fresh hGW hst (fun g h=>by have:=HN.out;omega)
 have hfin:=((ho.kept hst (fun g hg e=>by have h1:=HS3.out;have h2:=hg.1;omega)).base (B':=w.heap.size) HG3.out.size).mono (T:=jX w (jH w4 (N+1) (.int .i64 yk) (.int .i64 yn) (.int .u64 yu) (.string ys) (.slice ya4 yn4 yc4) (.slice ya5 yn5 yc5))) (fun g hg=>⟨Nat.le_trans HG3.out.size hg.1,Nat.lt_of_lt_of_le hg.2 hst.size⟩)
 have HFIN:=zh (And.intro hfin hGF)
 clear hst hGW hGF hfin ho hm jR hroom
 go_wp2
 refine bodyPost_ret (v:=.agg #[.int .i64 yk,.int .i64 yn,.int .u64 yu,.string ys,.slice ya4 yn4 yc4,.slice ya5 yn5 yc5]) (by simp[results,Try.results27,go_sem,z0,z1,z2,z3,z4,z5]) rfl ?_
 exact⟨_,rfl,by simpa using HFIN.out.1,HFIN.out.2⟩
theorem KJ (a b:List ByteArray) (v u:Value) (w:World) (ha:kO w v a) (hb:kO w u b) :
 Calls Try.prog 32 #[v,u] w fun r w'=>r=.returned (.bool (decide (a=b)))∧jC w w':=by
 have HA:=zh ha
 have HB:=zh hb
 obtain⟨aa,ac,rfl,hla,hac,hz1,hz2⟩:=ha
 obtain⟨ba,bc,rfl,hlb,hbc,hz3,hz4⟩:=hb
 unfold jI at hac hbc
 have hal:a.length≤9223372036854775807:=by omega
 have hbl:b.length≤9223372036854775807:=by omega
 clear hz1 hz2 hz3 hz4 hac hbc hla hlb
 by_cases hl:a.length=b.length
 ·go_enter Try.func32,Try.ntmps32
  go_wp2_with fail
  have hli:(a.length:Int)=b.length:=by omega
  have HL:=zh hl
  clear hli hl
  go_loopw [5] (fun i wr=>∃k:Nat,k≤a.length∧i=.int .i64 k∧Hid (a.take k=b.take k∧jC w wr)) (fun i _=>a.length - (intOf i).toNat)
  case atStart=>exact⟨0,Nat.zero_le _,rfl,by show _∧_;exact⟨by simp,jC.refl _⟩⟩
  case round=>
   obtain⟨k,hk,rfl,HW⟩:=hrel
   by_cases hlt:k < a.length
   ·obtain⟨x,hx⟩:∃x,a[k]? = some x:=⟨_,List.getElem?_eq_getElem hlt⟩
    have hltb:k < b.length:=by have:=HL.out;omega
    obtain⟨y,hy⟩:∃y,b[k]? = some y:=⟨_,List.getElem?_eq_getElem hltb⟩
    obtain⟨ax,ab,aoff,rfl,hca⟩:jI x.size∧∃b off,aa=some ⟨b,off,none⟩∧w.cell? ⟨b,off+k,none⟩=some (.string x):=by
     obtain⟨a',c',e,_,_,_,h⟩:=HA.out
     injection e with e1 e2 e3
     subst e1
     exact h k x hx
    obtain⟨bx,bb,boff,rfl,hcb⟩:jI y.size∧∃b off,ba=some ⟨b,off,none⟩∧w.cell? ⟨b,off+k,none⟩=some (.string y):=by
     obtain⟨a',c',e,_,_,_,h⟩:=HB.out
     injection e with e1 e2 e3
     subst e1
     exact h k y hy
    have c0:=HW.out.2.cell hca
    have c1:=HW.out.2.cell hcb
    have HXY:=zh (And.intro hx hy)
    clear hx hy hca hcb ax bx
    have yD:(k:Int) < a.length:=by omega
    have hltj:(k:Int) < b.length:=by omega
    by_cases hxy:x=y
    ·subst hxy
     go_wp2_with fail
     go_quiet (fail)
     go_wp2
     go_roundw
     case rel=>exact⟨k+1,by omega,by go_num,by
      show _∧_
      obtain⟨h1,h2⟩:=HXY.out
      exact⟨by rw[List.take_add_one,List.take_add_one,HW.out.1,h1,h2],HW.out.2.drewN _⟩⟩
     case measure=>simp[intOf];omega
    ·have hne:Hid (¬a=b):=fun e=>hxy (by
      obtain⟨h1,h2⟩:=HXY.out
      rw[e,h2] at h1
      injection h1 with h1
      exact h1.symm)
     have hbne:(x.toList == y.toList)=false:=by rw[qL];exact decide_eq_false hxy
     clear hxy
     go_wp2_with fail
     go_quiet (fail)
     go_wp2
     go_ret
     exact⟨by rw[decide_eq_false hne.out];rfl,HW.out.2.drewN _⟩
   ·have ek:k=a.length:=by omega
    subst ek
    have heq:Hid (a=b):=by
     show _=_
     have h:=HW.out.1
     rw[List.take_length,HL.out,List.take_length] at h
     exact h
    go_wp2
    go_ret
    exact⟨by rw[decide_eq_true heq.out];rfl,HW.out.2⟩
 ·have hne:Hid (¬a=b):=fun e=>hl (by rw[e])
  have hb1:((a.length:Int) != b.length)=true:=by simp;omega
  go_enter Try.func32,Try.ntmps32
  go_wp2
  go_ret
  exact⟨by rw[decide_eq_false hne.out];rfl,jC.refl _⟩
theorem yV:∀(m:Nat) (t:Tr),t.size≤m→∀(t2:Tr) (v v2:Value) (w:World),jL w t v→jL w t2 v2 →
 Calls Try.prog 12 #[v,v2] w fun r w'=>∃b,r=.returned (.bool b)∧(b=true↔t=t2)∧jC w w':=by
 intro m
 induction m with
 | zero=>intro t ht;have:=t.size_pos;omega
 | succ m ih=>
 intro t ht t2 v v2 w hn hn2
 obtain⟨k,n,u,s,keys,l⟩:=t
 obtain⟨k2,n2,u2,s2,keys2,l2⟩:=t2
 simp only[jL] at hn hn2
 obtain⟨hb,kv,lv,vs,rfl,hks,kS,kP⟩:=hn
 obtain⟨hb2,kv2,lv2,vs2,rfl,hks2,hrows2,hkids2⟩:=hn2
 have hkl:=kP.length
 have hkl2:=hkids2.length
 have HKS:=zh hks
 have HKS2:=zh hks2
 have HK:=zh kP
 have HK2:=zh hkids2
 obtain⟨a4,c4,rfl,hx1,hx2,hx3,hx4⟩:=hks
 obtain⟨b4,d4,rfl,hy1,hy2,hy3,hy4⟩:=hks2
 clear hx1 hx2 hx3 hx4 hy1 hy2 hy3 hy4
 have j8:=zh kS
 have HROWS2:=zh hrows2
 obtain⟨a5,c5,rfl,hll,hc5,hx3,hx4⟩:=kS
 obtain⟨b5,d5,rfl,hll2,hd5,hy3,hy4⟩:=hrows2
 rw[hkl] at j8 hll⊢
 rw[hkl2] at HROWS2 hll2⊢
 have kV:l.length≤9223372036854775807:=by unfold jI at hc5;omega
 have hlen2:l2.length≤9223372036854775807:=by unfold jI at hd5;omega
 clear hx3 hx4 hll hy3 hy4 hll2 hc5 hd5 hb hb2 hkl hkl2 kP hkids2
 have hsz:∀x∈l,x.size≤m:=fun x hx=>by have:=k9 hx;simp only[Tr.size] at ht;omega
 have HSZ:=zh hsz
 clear hsz ht
 by_cases h0:k=k2
 rotate_left
 ·have hne:Hid (¬(Tr.mk k n u s keys l=Tr.mk k2 n2 u2 s2 keys2 l2)):=fun e=>h0 (by injection e)
  have hB:(k != k2)=true:=by simp[h0]
  clear h0
  go_enter Try.func12,Try.ntmps12
  go_wp2_with fail
  go_ret
  exact⟨false,rfl,⟨fun h=>absurd h (by decide),fun h=>absurd h hne.out⟩,((jC.refl w).alloc _).alloc _⟩
 by_cases h1:n=n2
 rotate_left
 ·have hne:Hid (¬(Tr.mk k n u s keys l=Tr.mk k2 n2 u2 s2 keys2 l2)):=fun e=>h1 (by injection e)
  have hB:(n != n2)=true:=by simp[h1]
  clear h1
  go_enter Try.func12,Try.ntmps12
  go_wp2_with fail
  go_ret
  exact⟨false,rfl,⟨fun h=>absurd h (by decide),fun h=>absurd h hne.out⟩,((jC.refl w).alloc _).alloc _⟩
 by_cases h2:u=u2
 rotate_left
 ·have hne:Hid (¬(Tr.mk k n u s keys l=Tr.mk k2 n2 u2 s2 keys2 l2)):=fun e=>h2 (by injection e)
  have hB:(u != u2)=true:=by simp[h2]
  clear h2
  go_enter Try.func12,Try.ntmps12
  go_wp2_with fail
  go_ret
  exact⟨false,rfl,⟨fun h=>absurd h (by decide),fun h=>absurd h hne.out⟩,((jC.refl w).alloc _).alloc _⟩
 by_cases h3:s=s2
 rotate_left
 ·have hne:Hid (¬(Tr.mk k n u s keys l=Tr.mk k2 n2 u2 s2 keys2 l2)):=fun e=>h3 (by injection e)
  have hB:(s.toList == s2.toList)=false:=by rw[qL];exact decide_eq_false h3
  clear h3
  go_enter Try.func12,Try.ntmps12
  go_wp2_with fail
  go_ret
  exact⟨false,rfl,⟨fun h=>absurd h (by decide),fun h=>absurd h hne.out⟩,((jC.refl w).alloc _).alloc _⟩
 subst h0 h1 h2 h3
 by_cases h4:keys=keys2
 rotate_left
 ·have hne:Hid (¬(Tr.mk k n u s keys l=Tr.mk k n u s keys2 l2)):=fun e=>h4 (by injection e)
  have hB:decide (keys=keys2)=false:=decide_eq_false h4
  clear h4
  go_enter Try.func12,Try.ntmps12
  go_wp2_with fail
  refine (KJ keys keys2 _ _ _ (HKS.out.grew (((jC.refl w).alloc _).alloc _)) (HKS2.out.grew (((jC.refl w).alloc _).alloc _))).mono ?_
  rw[hB]
  rintro r w3 ⟨rfl,hg3⟩
  have HG3:=zh hg3
  clear hg3 hB
  go_wp2_with fail
  go_ret
  exact⟨false,rfl,⟨fun h=>absurd h (by decide),fun h=>absurd h hne.out⟩,(((jC.refl w).alloc _).alloc _).trans HG3.out⟩
 subst h4
 go_enter Try.func12,Try.ntmps12
 go_wp2_with fail
 refine (KJ keys keys _ _ _ (HKS.out.grew (((jC.refl w).alloc _).alloc _)) (HKS2.out.grew (((jC.refl w).alloc _).alloc _))).mono ?_
 rw[decide_eq_true (rfl:keys=keys)]
 rintro r w3 ⟨rfl,hg3⟩
 have hb1:=heap_alloc_new w (.cells #[.int .i64 k,.int .i64 n,.int .u64 u,.string s,.slice a4 keys.length c4,.slice a5 l.length c5] 26)
 have hb2:=heap_alloc_new (w.alloc (.cells #[.int .i64 k,.int .i64 n,.int .u64 u,.string s,.slice a4 keys.length c4,.slice a5 l.length c5] 26)) (.cells #[.int .i64 k,.int .i64 n,.int .u64 u,.string s,.slice b4 keys.length d4,.slice b5 l2.length d5] 26)
 replace hb1:=hg3.heap (((jC.refl (w.alloc (.cells #[.int .i64 k,.int .i64 n,.int .u64 u,.string s,.slice a4 keys.length c4,.slice a5 l.length c5] 26))).alloc (.cells #[.int .i64 k,.int .i64 n,.int .u64 u,.string s,.slice b4 keys.length d4,.slice b5 l2.length d5] 26)).heap hb1)
 replace hb2:=hg3.heap hb2
 rw[World.size_alloc] at hb2
 have HB1:=zh hb1
 have HB2:=zh hb2
 have HG:=zh ((((jC.refl w).alloc (.cells #[.int .i64 k,.int .i64 n,.int .u64 u,.string s,.slice a4 keys.length c4,.slice a5 l.length c5] 26)).alloc (.cells #[.int .i64 k,.int .i64 n,.int .u64 u,.string s,.slice b4 keys.length d4,.slice b5 l2.length d5] 26)).trans hg3)
 have c5':=jA hb1 5 _ rfl
 have e5:=jA hb2 5 _ rfl
 obtain⟨N,hN⟩:∃N,w.heap.size=N:=⟨_,rfl⟩
 rw[hN] at c5' e5 HB1 HB2⊢
 clear hb1 hb2 hg3 hN
 by_cases h5:l.length=l2.length
 rotate_left
 ·have hne:Hid (¬(Tr.mk k n u s keys l=Tr.mk k n u s keys l2)):=fun e=>h5 (by injection e with _ _ _ _ _ e;rw[e])
  have hB:((l.length:Int) != l2.length)=true:=by simp;omega
  go_wp2_with fail
  go_ret
  exact⟨false,rfl,⟨fun h=>absurd h (by decide),fun h=>absurd h hne.out⟩,HG.out⟩
 have HL:=zh h5
 have hB:((l.length:Int) != l2.length)=false:=by rw[h5];simp
 clear h5
 go_wp2_with fail
 clear hB
 go_loopw [5] (fun i wr=>∃kk:Nat,kk≤l.length∧i=.int .i64 kk∧Hid (l.take kk=l2.take kk∧jC w3 wr)) (fun i _=>l.length - (intOf i).toNat)
 case atStart=>exact⟨0,Nat.zero_le _,rfl,by show _∧_;exact⟨by simp,jC.refl _⟩⟩
 case round=>
  obtain⟨kk,hkk,rfl,HW⟩:=hrel
  replace c5':=HW.out.2.cell c5'
  by_cases hlt:kk < l.length
  ·have hlt2:kk < l2.length:=by have:=HL.out;omega
   obtain⟨x,hx⟩:∃x,l[kk]? = some x:=⟨_,List.getElem?_eq_getElem hlt⟩
   obtain⟨y',hy'⟩:∃y,l2[kk]? = some y:=⟨_,List.getElem?_eq_getElem hlt2⟩
   obtain⟨xv,hxv,hnx⟩:=HK.out.get hx
   obtain⟨yv,hyv,hny⟩:=HK2.out.get hy'
   have hxs:=HSZ.out x (List.mem_of_getElem? hx)
   obtain⟨b,off,rfl,hc6⟩:∃b off,a5=some ⟨b,off,none⟩∧kQ wr b (off+kk*6) xv:=by
    obtain⟨a,c,e,_,_,_,h⟩:=j8.out
    injection e with e1 e2 e3
    subst e1
    obtain⟨b,off,e,h6⟩:=h kk xv hxv
    exact⟨b,off,e,h6.grew (HG.out.trans HW.out.2)⟩
   obtain⟨b',off',rfl,hd6⟩:∃b off,b5=some ⟨b,off,none⟩∧kQ wr b (off+kk*6) yv:=by
    obtain⟨a,c,e,_,_,_,h⟩:=HROWS2.out
    injection e with e1 e2 e3
    subst e1
    obtain⟨b,off,e,h6⟩:=h kk yv hyv
    exact⟨b,off,e,h6.grew (HG.out.trans HW.out.2)⟩
   obtain⟨xk,xn,xu,xs,xa4,xn4,xc4,xa5,xn5,xc5,rfl⟩:=hnx.node6
   obtain⟨yk,yn,yu,ys,ya4,yn4,yc4,ya5,yn5,yc5,rfl⟩:=hny.node6
   obtain⟨p0,p1,p2,p3,p4,p5⟩:=hc6.get
   obtain⟨q0,q1,q2,q3,q4,q5⟩:=hd6.get
   replace e5:=HW.out.2.cell e5
   have HNX:=zh hnx
   have HNY:=zh hny
   have HXY:=zh (And.intro hx hy')
   clear hc6 hd6 hx hy' hxv hyv hnx hny
   have yD:(kk:Int) < l.length:=by omega
   have hltj:(kk:Int) < l2.length:=by omega
   go_wp2_with fail
   by_cases hxy:x=y'
   ·have HEQ:=zh hxy
    clear hxy
    refine kN jC [[],[0],[],[1,2],[3],[],[5],[],[6,7],[8],[4,9],[10]] [[(58,2),(59,3),(60,4),(61,5),(62,6),(63,7),(64,8),(65,9),(66,10),(67,11)],[(56,0),(58,2),(60,4),(61,5),(62,6),(63,7),(64,8),(65,9),(66,10),(67,11)],[(56,0),(57,1),(60,4),(61,5),(62,6),(63,7),(64,8),(65,9),(66,10),(67,11)],[(56,0),(57,1),(58,2),(61,5),(62,6),(63,7),(64,8),(65,9),(66,10),(67,11)],[(56,0),(57,1),(58,2),(59,3),(61,5),(62,6),(63,7),(64,8),(65,9),(67,11)],[(56,0),(57,1),(58,2),(59,3),(60,4),(63,7),(64,8),(65,9),(66,10),(67,11)],[(56,0),(57,1),(58,2),(59,3),(60,4),(61,5),(63,7),(65,9),(66,10),(67,11)],[(56,0),(57,1),(58,2),(59,3),(60,4),(61,5),(62,6),(65,9),(66,10),(67,11)],[(56,0),(57,1),(58,2),(59,3),(60,4),(61,5),(62,6),(63,7),(66,10),(67,11)],[(56,0),(57,1),(58,2),(59,3),(60,4),(61,5),(62,6),(63,7),(64,8),(67,11)],[(56,0),(57,1),(58,2),(59,3),(60,4),(61,5),(62,6),(63,7),(64,8),(65,9)],[(56,0),(57,1),(58,2),(59,3),(60,4),(61,5),(62,6),(63,7),(64,8),(65,9),(66,10)]] [(56,0),(57,1),(58,2),(59,3),(60,4),(61,5),(62,6),(63,7),(64,8),(65,9),(66,10),(67,11)]
     [Is (.pointer (some ⟨N,5,none⟩)),Is (.slice (some ⟨b,off,none⟩) l.length c5),Is (.int .i64 kk),Is (.pointer (some ⟨b,off+kk*6,none⟩)),Is (.agg #[.int .i64 xk,.int .i64 xn,.int .u64 xu,.string xs,.slice xa4 xn4 xc4,.slice xa5 xn5 xc5]),Is (.pointer (some ⟨N+1,5,none⟩)),Is (.slice (some ⟨b',off',none⟩) l2.length d5),Is (.int .i64 kk),Is (.pointer (some ⟨b',off'+kk*6,none⟩)),Is (.agg #[.int .i64 yk,.int .i64 yn,.int .u64 yu,.string ys,.slice ya4 yn4 yc4,.slice ya5 yn5 yc5]),Is (.bool true),Is (.bool false)]
     zk jC.trans jC.refl (jC.refl _).drew zk ⟨jG,jG,jG,jG,jG,jG,jG,jG,jG,jG,jG,jG,trivial⟩ ⟨?_,?_,?_,?_,?_,?_,?_,?_,?_,?_,?_,?_,trivial⟩ rfl ?_
    ·intro y w2' hG hD K hK
     simp only[jD,Act.put,zq1,zq2,zq3,zq4,zq5,Is] at hK⊢
     refine jF ?_
     go_simp
     exact hK _ _ _ rfl (jC.refl _) rfl
    ·intro y w2' hG hD K hK
     simp only[jM,zq4,zq5,Is,and_true] at hD
     have h0:=hD
     clear hD
     have dc5':=hG.cell c5'
     have de5:=hG.cell e5
     have dp0:=hG.cell p0
     have dp1:=hG.cell p1
     have dp2:=hG.cell p2
     have dp3:=hG.cell p3
     have dp4:=hG.cell p4
     have dp5:=hG.cell p5
     have dq0:=hG.cell q0
     have dq1:=hG.cell q1
     have dq2:=hG.cell q2
     have dq3:=hG.cell q3
     have dq4:=hG.cell q4
     have dq5:=hG.cell q5
     simp only[jD,Act.put,zq1,zq2,zq3,zq4,zq5,Is] at hK⊢
     rw[h0] at hK⊢
     clear h0
     refine jF ?_
     go_simp
     exact hK _ _ _ rfl (jC.refl _) rfl
    ·intro y w2' hG hD K hK
     simp only[jD,Act.put,zq1,zq2,zq3,zq4,zq5,Is] at hK⊢
     refine jF ?_
     go_simp
     exact hK _ _ _ rfl (jC.refl _) rfl
    ·intro y w2' hG hD K hK
     simp only[jM,zq4,zq5,Is,and_true] at hD
     have h1:=hD.1
     have h2:=hD.2
     clear hD
     simp only[jD,Act.put,zq1,zq2,zq3,zq4,zq5,Is] at hK⊢
     rw[h1,h2] at hK⊢
     clear h1 h2
     refine jF ?_
     go_simp
     exact hK _ _ _ rfl (jC.refl _) rfl
    ·intro y w2' hG hD K hK
     simp only[jM,zq4,zq5,Is,and_true] at hD
     have h3:=hD
     clear hD
     have dc5':=hG.cell c5'
     have de5:=hG.cell e5
     have dp0:=hG.cell p0
     have dp1:=hG.cell p1
     have dp2:=hG.cell p2
     have dp3:=hG.cell p3
     have dp4:=hG.cell p4
     have dp5:=hG.cell p5
     have dq0:=hG.cell q0
     have dq1:=hG.cell q1
     have dq2:=hG.cell q2
     have dq3:=hG.cell q3
     have dq4:=hG.cell q4
     have dq5:=hG.cell q5
     simp only[jD,Act.put,zq1,zq2,zq3,zq4,zq5,Is] at hK⊢
     rw[h3] at hK⊢
     clear h3
     refine jF ?_
     go_simp
     exact hK _ _ _ rfl (jC.refl _) rfl
    ·intro y w2' hG hD K hK
     simp only[jD,Act.put,zq1,zq2,zq3,zq4,zq5,Is] at hK⊢
     refine jF ?_
     go_simp
     exact hK _ _ _ rfl (jC.refl _) rfl
    ·intro y w2' hG hD K hK
     simp only[jM,zq4,zq5,Is,and_true] at hD
     have h5:=hD
     clear hD
     have dc5':=hG.cell c5'
     have de5:=hG.cell e5
     have dp0:=hG.cell p0
     have dp1:=hG.cell p1
     have dp2:=hG.cell p2
     have dp3:=hG.cell p3
     have dp4:=hG.cell p4
     have dp5:=hG.cell p5
     have dq0:=hG.cell q0
     have dq1:=hG.cell q1
     have dq2:=hG.cell q2
     have dq3:=hG.cell q3
     have dq4:=hG.cell q4
     have dq5:=hG.cell q5
     simp only[jD,Act.put,zq1,zq2,zq3,zq4,zq5,Is] at hK⊢
     rw[h5] at hK⊢
     clear h5
     refine jF ?_
     go_simp
     exact hK _ _ _ rfl (jC.refl _) rfl
    ·intro y w2' hG hD K hK
     simp only[jD,Act.put,zq1,zq2,zq3,zq4,zq5,Is] at hK⊢
     refine jF ?_
     go_simp
     exact hK _ _ _ rfl (jC.refl _) rfl
    ·intro y w2' hG hD K hK
     simp only[jM,zq4,zq5,Is,and_true] at hD
     have h6:=hD.1
     have h7:=hD.2
     clear hD
     simp only[jD,Act.put,zq1,zq2,zq3,zq4,zq5,Is] at hK⊢
     rw[h6,h7] at hK⊢
     clear h6 h7
     refine jF ?_
     go_simp
     exact hK _ _ _ rfl (jC.refl _) rfl
    ·intro y w2' hG hD K hK
     simp only[jM,zq4,zq5,Is,and_true] at hD
     have h8:=hD
     clear hD
     have dc5':=hG.cell c5'
     have de5:=hG.cell e5
     have dp0:=hG.cell p0
     have dp1:=hG.cell p1
     have dp2:=hG.cell p2
     have dp3:=hG.cell p3
     have dp4:=hG.cell p4
     have dp5:=hG.cell p5
     have dq0:=hG.cell q0
     have dq1:=hG.cell q1
     have dq2:=hG.cell q2
     have dq3:=hG.cell q3
     have dq4:=hG.cell q4
     have dq5:=hG.cell q5
     simp only[jD,Act.put,zq1,zq2,zq3,zq4,zq5,Is] at hK⊢
     rw[h8] at hK⊢
     clear h8
     refine jF ?_
     go_simp
     exact hK _ _ _ rfl (jC.refl _) rfl
    ·intro y w2' hG hD K hK
     simp only[jM,zq4,zq5,Is,and_true] at hD
     have h4:=hD.1
     have h9:=hD.2
     clear hD
     simp only[jD,Act.put,zq1,zq2,zq3,zq4,zq5,Is] at hK⊢
     rw[h4,h9] at hK⊢
     clear h4 h9
     refine jF ?_
     go_simp
     refine (ih x hxs y' _ _ _ (HNX.out.grew (HG.out.trans (HW.out.2.trans hG))) (HNY.out.grew (HG.out.trans (HW.out.2.trans hG)))).mono ?_
     rintro r w4 ⟨bb,rfl,hbb,hg⟩
     obtain rfl:bb=true:=hbb.2 HEQ.out
     exact hK _ _ _ rfl hg rfl
    ·intro y w2' hG hD K hK
     simp only[jM,zq4,zq5,Is,and_true] at hD
     have h10:=hD
     clear hD
     simp only[jD,Act.put,zq1,zq2,zq3,zq4,zq5,Is] at hK⊢
     rw[h10] at hK⊢
     clear h10
     refine jF ?_
     go_simp
     exact hK _ _ _ rfl (jC.refl _) rfl
    ·intro y w2' hG hF
     simp only[zH,Is,and_true,Nat.reduceAdd] at hF
     have h0:=hF.1
     have h1:=hF.2.1
     have h2:=hF.2.2.1
     have h3:=hF.2.2.2.1
     have h4:=hF.2.2.2.2.1
     have h5:=hF.2.2.2.2.2.1
     have h6:=hF.2.2.2.2.2.2.1
     have h7:=hF.2.2.2.2.2.2.2.1
     have h8:=hF.2.2.2.2.2.2.2.2.1
     have h9:=hF.2.2.2.2.2.2.2.2.2.1
     have h10:=hF.2.2.2.2.2.2.2.2.2.2.1
     have h11:=hF.2.2.2.2.2.2.2.2.2.2.2
     clear hF
     simp only[jD,Act.put,zq1,zq2,zq3,zq4,zq5,Is]
     rw[h0,h1,h2,h3,h4,h5,h6,h7,h8,h9,h10,h11]
     clear h0 h1 h2 h3 h4 h5 h6 h7 h8 h9 h10 h11
     have HGW:=zh (HW.out.2.trans hG)
     clear hG
     go_wp2_with fail
     go_roundw
     case rel=>exact⟨kk+1,by omega,by go_num,by
      show _∧_
      obtain⟨h1,h2⟩:=HXY.out
      exact⟨by rw[List.take_add_one,List.take_add_one,HW.out.1,h1,h2,HEQ.out],HGW.out⟩⟩
     case measure=>simp[intOf];omega
   ·have HEQ:=zh hxy
    clear hxy
    refine kN jC [[],[0],[],[1,2],[3],[],[5],[],[6,7],[8],[4,9],[10]] [[(58,2),(59,3),(60,4),(61,5),(62,6),(63,7),(64,8),(65,9),(66,10),(67,11)],[(56,0),(58,2),(60,4),(61,5),(62,6),(63,7),(64,8),(65,9),(66,10),(67,11)],[(56,0),(57,1),(60,4),(61,5),(62,6),(63,7),(64,8),(65,9),(66,10),(67,11)],[(56,0),(57,1),(58,2),(61,5),(62,6),(63,7),(64,8),(65,9),(66,10),(67,11)],[(56,0),(57,1),(58,2),(59,3),(61,5),(62,6),(63,7),(64,8),(65,9),(67,11)],[(56,0),(57,1),(58,2),(59,3),(60,4),(63,7),(64,8),(65,9),(66,10),(67,11)],[(56,0),(57,1),(58,2),(59,3),(60,4),(61,5),(63,7),(65,9),(66,10),(67,11)],[(56,0),(57,1),(58,2),(59,3),(60,4),(61,5),(62,6),(65,9),(66,10),(67,11)],[(56,0),(57,1),(58,2),(59,3),(60,4),(61,5),(62,6),(63,7),(66,10),(67,11)],[(56,0),(57,1),(58,2),(59,3),(60,4),(61,5),(62,6),(63,7),(64,8),(67,11)],[(56,0),(57,1),(58,2),(59,3),(60,4),(61,5),(62,6),(63,7),(64,8),(65,9)],[(56,0),(57,1),(58,2),(59,3),(60,4),(61,5),(62,6),(63,7),(64,8),(65,9),(66,10)]] [(56,0),(57,1),(58,2),(59,3),(60,4),(61,5),(62,6),(63,7),(64,8),(65,9),(66,10),(67,11)]
     [Is (.pointer (some ⟨N,5,none⟩)),Is (.slice (some ⟨b,off,none⟩) l.length c5),Is (.int .i64 kk),Is (.pointer (some ⟨b,off+kk*6,none⟩)),Is (.agg #[.int .i64 xk,.int .i64 xn,.int .u64 xu,.string xs,.slice xa4 xn4 xc4,.slice xa5 xn5 xc5]),Is (.pointer (some ⟨N+1,5,none⟩)),Is (.slice (some ⟨b',off',none⟩) l2.length d5),Is (.int .i64 kk),Is (.pointer (some ⟨b',off'+kk*6,none⟩)),Is (.agg #[.int .i64 yk,.int .i64 yn,.int .u64 yu,.string ys,.slice ya4 yn4 yc4,.slice ya5 yn5 yc5]),Is (.bool false),Is (.bool true)]
     zk jC.trans jC.refl (jC.refl _).drew zk ⟨jG,jG,jG,jG,jG,jG,jG,jG,jG,jG,jG,jG,trivial⟩ ⟨?_,?_,?_,?_,?_,?_,?_,?_,?_,?_,?_,?_,trivial⟩ rfl ?_
    ·intro y w2' hG hD K hK
     simp only[jD,Act.put,zq1,zq2,zq3,zq4,zq5,Is] at hK⊢
     refine jF ?_
     go_simp
     exact hK _ _ _ rfl (jC.refl _) rfl
    ·intro y w2' hG hD K hK
     simp only[jM,zq4,zq5,Is,and_true] at hD
     have h0:=hD
     clear hD
     have dc5':=hG.cell c5'
     have de5:=hG.cell e5
     have dp0:=hG.cell p0
     have dp1:=hG.cell p1
     have dp2:=hG.cell p2
     have dp3:=hG.cell p3
     have dp4:=hG.cell p4
     have dp5:=hG.cell p5
     have dq0:=hG.cell q0
     have dq1:=hG.cell q1
     have dq2:=hG.cell q2
     have dq3:=hG.cell q3
     have dq4:=hG.cell q4
     have dq5:=hG.cell q5
     simp only[jD,Act.put,zq1,zq2,zq3,zq4,zq5,Is] at hK⊢
     rw[h0] at hK⊢
     clear h0
     refine jF ?_
     go_simp
     exact hK _ _ _ rfl (jC.refl _) rfl
    ·intro y w2' hG hD K hK
     simp only[jD,Act.put,zq1,zq2,zq3,zq4,zq5,Is] at hK⊢
     refine jF ?_
     go_simp
     exact hK _ _ _ rfl (jC.refl _) rfl
    ·intro y w2' hG hD K hK
     simp only[jM,zq4,zq5,Is,and_true] at hD
     have h1:=hD.1
     have h2:=hD.2
     clear hD
     simp only[jD,Act.put,zq1,zq2,zq3,zq4,zq5,Is] at hK⊢
     rw[h1,h2] at hK⊢
     clear h1 h2
     refine jF ?_
     go_simp
     exact hK _ _ _ rfl (jC.refl _) rfl
    ·intro y w2' hG hD K hK
     simp only[jM,zq4,zq5,Is,and_true] at hD
     have h3:=hD
     clear hD
     have dc5':=hG.cell c5'
     have de5:=hG.cell e5
     have dp0:=hG.cell p0
     have dp1:=hG.cell p1
     have dp2:=hG.cell p2
     have dp3:=hG.cell p3
     have dp4:=hG.cell p4
     have dp5:=hG.cell p5
     have dq0:=hG.cell q0
     have dq1:=hG.cell q1
     have dq2:=hG.cell q2
     have dq3:=hG.cell q3
     have dq4:=hG.cell q4
     have dq5:=hG.cell q5
     simp only[jD,Act.put,zq1,zq2,zq3,zq4,zq5,Is] at hK⊢
     rw[h3] at hK⊢
     clear h3
     refine jF ?_
     go_simp
     exact hK _ _ _ rfl (jC.refl _) rfl
    ·intro y w2' hG hD K hK
     simp only[jD,Act.put,zq1,zq2,zq3,zq4,zq5,Is] at hK⊢
     refine jF ?_
     go_simp
     exact hK _ _ _ rfl (jC.refl _) rfl
    ·intro y w2' hG hD K hK
     simp only[jM,zq4,zq5,Is,and_true] at hD
     have h5:=hD
     clear hD
     have dc5':=hG.cell c5'
     have de5:=hG.cell e5
     have dp0:=hG.cell p0
     have dp1:=hG.cell p1
     have dp2:=hG.cell p2
     have dp3:=hG.cell p3
     have dp4:=hG.cell p4
     have dp5:=hG.cell p5
     have dq0:=hG.cell q0
     have dq1:=hG.cell q1
     have dq2:=hG.cell q2
     have dq3:=hG.cell q3
     have dq4:=hG.cell q4
     have dq5:=hG.cell q5
     simp only[jD,Act.put,zq1,zq2,zq3,zq4,zq5,Is] at hK⊢
     rw[h5] at hK⊢
     clear h5
     refine jF ?_
     go_simp
     exact hK _ _ _ rfl (jC.refl _) rfl
    ·intro y w2' hG hD K hK
     simp only[jD,Act.put,zq1,zq2,zq3,zq4,zq5,Is] at hK⊢
     refine jF ?_
     go_simp
     exact hK _ _ _ rfl (jC.refl _) rfl
    ·intro y w2' hG hD K hK
     simp only[jM,zq4,zq5,Is,and_true] at hD
     have h6:=hD.1
     have h7:=hD.2
     clear hD
     simp only[jD,Act.put,zq1,zq2,zq3,zq4,zq5,Is] at hK⊢
     rw[h6,h7] at hK⊢
     clear h6 h7
     refine jF ?_
     go_simp
     exact hK _ _ _ rfl (jC.refl _) rfl
    ·intro y w2' hG hD K hK
     simp only[jM,zq4,zq5,Is,and_true] at hD
     have h8:=hD
     clear hD
     have dc5':=hG.cell c5'
     have de5:=hG.cell e5
     have dp0:=hG.cell p0
     have dp1:=hG.cell p1
     have dp2:=hG.cell p2
     have dp3:=hG.cell p3
     have dp4:=hG.cell p4
     have dp5:=hG.cell p5
     have dq0:=hG.cell q0
     have dq1:=hG.cell q1
     have dq2:=hG.cell q2
     have dq3:=hG.cell q3
     have dq4:=hG.cell q4
     have dq5:=hG.cell q5
     simp only[jD,Act.put,zq1,zq2,zq3,zq4,zq5,Is] at hK⊢
     rw[h8] at hK⊢
     clear h8
     refine jF ?_
     go_simp
     exact hK _ _ _ rfl (jC.refl _) rfl
    ·intro y w2' hG hD K hK
     simp only[jM,zq4,zq5,Is,and_true] at hD
     have h4:=hD.1
     have h9:=hD.2
     clear hD
     simp only[jD,Act.put,zq1,zq2,zq3,zq4,zq5,Is] at hK⊢
     rw[h4,h9] at hK⊢
     clear h4 h9
     refine jF ?_
     go_simp
     refine (ih x hxs y' _ _ _ (HNX.out.grew (HG.out.trans (HW.out.2.trans hG))) (HNY.out.grew (HG.out.trans (HW.out.2.trans hG)))).mono ?_
     rintro r w4 ⟨bb,rfl,hbb,hg⟩
     obtain rfl:bb=false:=by cases bb;rfl;exact absurd (hbb.1 rfl) HEQ.out
     exact hK _ _ _ rfl hg rfl
    ·intro y w2' hG hD K hK
     simp only[jM,zq4,zq5,Is,and_true] at hD
     have h10:=hD
     clear hD
     simp only[jD,Act.put,zq1,zq2,zq3,zq4,zq5,Is] at hK⊢
     rw[h10] at hK⊢
     clear h10
     refine jF ?_
     go_simp
     exact hK _ _ _ rfl (jC.refl _) rfl
    ·intro y w2' hG hF
     simp only[zH,Is,and_true,Nat.reduceAdd] at hF
     have h0:=hF.1
     have h1:=hF.2.1
     have h2:=hF.2.2.1
     have h3:=hF.2.2.2.1
     have h4:=hF.2.2.2.2.1
     have h5:=hF.2.2.2.2.2.1
     have h6:=hF.2.2.2.2.2.2.1
     have h7:=hF.2.2.2.2.2.2.2.1
     have h8:=hF.2.2.2.2.2.2.2.2.1
     have h9:=hF.2.2.2.2.2.2.2.2.2.1
     have h10:=hF.2.2.2.2.2.2.2.2.2.2.1
     have h11:=hF.2.2.2.2.2.2.2.2.2.2.2
     clear hF
     simp only[jD,Act.put,zq1,zq2,zq3,zq4,zq5,Is]
     rw[h0,h1,h2,h3,h4,h5,h6,h7,h8,h9,h10,h11]
     clear h0 h1 h2 h3 h4 h5 h6 h7 h8 h9 h10 h11
     have HGW:=zh (HW.out.2.trans hG)
     clear hG
     have hne:Hid (¬(Tr.mk k n u s keys l=Tr.mk k n u s keys l2)):=fun e=>HEQ.out (by
      injection e with _ _ _ _ _ e
      obtain⟨h1,h2⟩:=HXY.out
      rw[e,h2] at h1
      injection h1 with h1
      exact h1.symm)
     go_wp2_with fail
     go_ret
     exact⟨false,rfl,⟨fun h=>absurd h (by decide),fun h=>absurd h hne.out⟩,HG.out.trans HGW.out⟩
  ·have ek:kk=l.length:=by omega
   subst ek
   have heq:Hid (l=l2):=by
    show _=_
    have h:=HW.out.1
    rw[List.take_length,HL.out,List.take_length] at h
    exact h
   go_wp2_with fail
   go_ret
   exact⟨true,rfl,⟨fun _=>by rw[heq.out],fun _=>rfl⟩,HG.out.trans HW.out.2⟩
def KR (W w:World) (kv lv:Value) (ks:List ByteArray) (ts:List Tr):Prop:=
 jC W w∧kD w W.heap.size kv ks∧(∀g,kv.ownBlock=some g→lv.ownBlock≠some g)∧∃vs S,kK w W.heap.size lv vs∧j4 w W.heap.size ts vs S∧∀g,S g→W.heap.size≤g∧g < w.heap.size∧lv.ownBlock≠some g∧kv.ownBlock≠some g
section
variable {W w w1 w3 w4 w6:World} {kv kv' lv lv' xv:Value} {ks:List ByteArray} {ts:List Tr}
theorem KR.start (W:World):KR W W (.slice none 0 0) (.slice none 0 0) [] []:=
 ⟨jC.refl W,kD.nil _ _,fun g h=>(by cases h),[],fun _=>False,kK.nil _ _,rfl,fun _ h=>h.elim⟩
theorem kD.grew' {B:Nat} (h:kD w B kv ks) (hg:jC w w1):kD w1 B kv ks:=Moved.owns (Moved.of_grew (S:=fun _=>False) hg) h (fun _ _ h=>h)
theorem KR.key {q:ByteArray} (h:KR W w kv lv ks ts) (hga:jC w w1) (kE:kD w3 W.heap.size kv' (ks++[q])) (hgr:w1.grownBy w3 kv.ownBlock) (hn:vW w1 kv.ownBlock kv'.ownBlock):KR W w3 kv' lv (ks++[q]) ts:=by
 obtain⟨h0,h1,h2,vs,S,h3,h4,h5⟩:=h
 have hm:Moved (fun k=>some k=kv.ownBlock) w1 w3:=Moved.of_grown hgr
 have hs1:=hga.size
 have hs2:=hm.size
 have hlt:∀g,lv.ownBlock=some g→W.heap.size≤g∧g < w.heap.size:=fun g hg=>World.ownsRow.lt h3.1 g hg
 refine⟨Moved.fresh (h0.trans hga) hm (fun g e=>(World.ownsRow.lt h1 g e.symm).1),kE,fun g hg hl=>?_,vs,S,⟨Moved.owns hm (h3.grew hga).1 (fun g hg e=>h2 g e.symm hg),h3.2⟩,(h4.grew hga).kept hm (fun g hS e=>(h5 g hS).2.2.2 e.symm),fun g hS=>⟨(h5 g hS).1,by have:=(h5 g hS).2.1;omega,(h5 g hS).2.2.1,fun e=>?_⟩⟩
 ·rcases hn g hg with e|e
  ·exact h2 g e hl
  ·have:=(hlt g hl).2;omega
 ·rcases hn g e with e|e
  ·exact (h5 g hS).2.2.2 e
  ·have:=(h5 g hS).2.1;omega
theorem KR.tree {w0:World} {k n u:Int} {s:ByteArray} (h:KR W w kv lv ks ts) (hb:jQ k∧jQ n∧j9 u∧jI s.size∧∀x∈ks,jI x.size) (h00:w0.heap.size≤W.heap.size) :
 jW w w0.heap.size (.mk k n u s ks ts) (.agg #[.int .i64 k,.int .i64 n,.int .u64 u,.string s,kv,lv]) (jX w0 w):=by
 obtain⟨h0,h1,h2,vs,S,h3,h4,h5⟩:=h
 have hkt:∀g,kv.ownBlock=some g→W.heap.size≤g∧g < w.heap.size:=fun g hg=>World.ownsRow.lt h1 g hg
 have hlt:∀g,lv.ownBlock=some g→W.heap.size≤g∧g < w.heap.size:=fun g hg=>World.ownsRow.lt h3.1 g hg
 simp only[jW]
 exact⟨hb,kv,lv,vs,S,rfl,kX h1 h00,⟨kX h3.1 h00,h3.2⟩,fun g hg=>⟨⟨Nat.le_trans h00 (hkt g hg).1,(hkt g hg).2⟩,fun hS=>(h5 g hS).2.2.2 hg⟩,fun g hg=>⟨⟨Nat.le_trans h00 (hlt g hg).1,(hlt g hg).2⟩,fun hS=>(h5 g hS).2.2.1 hg⟩,h2,fun g hS=>⟨Nat.le_trans h00 (h5 g hS).1,(h5 g hS).2.1⟩,h4.base h00⟩
end
theorem K6 (a b:List ByteArray) (v u:Value) (w:World) (ha:kO w v a) (hb:kO w u b) :
 Calls Try.prog 41 #[v,u] w fun r w'=>r=.returned (.bool (decide (a=b)))∧jC w w':=by
 have HA:=zh ha
 have HB:=zh hb
 obtain⟨aa,ac,rfl,hla,hac,hz1,hz2⟩:=ha
 obtain⟨ba,bc,rfl,hlb,hbc,hz3,hz4⟩:=hb
 unfold jI at hac hbc
 have hal:a.length≤9223372036854775807:=by omega
 have hbl:b.length≤9223372036854775807:=by omega
 clear hz1 hz2 hz3 hz4 hac hbc hla hlb
 by_cases hl:a.length=b.length
 ·have HL:=zh hl
  rw[← hl] at HB⊢
  clear hl hbl
  go_enter Try.func41,Try.ntmps41
  go_wp2_with fail
  go_loopw [13] (fun i wr=>∃k:Nat,k≤a.length∧i=.int .i64 k∧Hid (a.take k=b.take k∧jC w wr)) (fun i _=>a.length - (intOf i).toNat)
  case atStart=>exact⟨0,Nat.zero_le _,rfl,by show _∧_;exact⟨by simp,jC.refl _⟩⟩
  case round=>
   obtain⟨k,hk,rfl,HW⟩:=hrel
   by_cases hlt:k < a.length
   ·obtain⟨x,hx⟩:∃x,a[k]? = some x:=⟨_,List.getElem?_eq_getElem hlt⟩
    have hltb:k < b.length:=by have:=HL.out;omega
    obtain⟨y,hy⟩:∃y,b[k]? = some y:=⟨_,List.getElem?_eq_getElem hltb⟩
    obtain⟨ax,ab,aoff,rfl,hca⟩:jI x.size∧∃b off,aa=some ⟨b,off,none⟩∧w.cell? ⟨b,off+k,none⟩=some (.string x):=by
     obtain⟨a',c',e,_,_,_,h⟩:=HA.out
     injection e with e1 e2 e3
     subst e1
     exact h k x hx
    obtain⟨bx,bb,boff,rfl,hcb⟩:jI y.size∧∃b off,ba=some ⟨b,off,none⟩∧w.cell? ⟨b,off+k,none⟩=some (.string y):=by
     obtain⟨a',c',e,_,_,_,h⟩:=HB.out
     injection e with e1 e2 e3
     subst e1
     exact h k y hy
    have c0:=HW.out.2.cell hca
    have c1:=HW.out.2.cell hcb
    have HXY:=zh (And.intro hx hy)
    clear hx hy hca hcb ax bx
    have yD:(k:Int) < a.length:=by omega
    by_cases hxy:x=y
    ·subst hxy
     go_wp2_with fail
     go_quiet (fail)
     go_wp2
     go_roundw
     case rel=>exact⟨k+1,by omega,by go_num,by
      show _∧_
      obtain⟨h1,h2⟩:=HXY.out
      exact⟨by rw[List.take_add_one,List.take_add_one,HW.out.1,h1,h2],HW.out.2.drewN _⟩⟩
     case measure=>simp[intOf];omega
    ·have hne:Hid (¬a=b):=fun e=>hxy (by
      obtain⟨h1,h2⟩:=HXY.out
      rw[e,h2] at h1
      injection h1 with h1
      exact h1.symm)
     have hbne:(x.toList == y.toList)=false:=by rw[qL];exact decide_eq_false hxy
     clear hxy
     go_wp2_with fail
     go_quiet (fail)
     go_wp2
     go_ret
     exact⟨by rw[decide_eq_false hne.out];rfl,HW.out.2.drewN _⟩
   ·have ek:k=a.length:=by omega
    subst ek
    have heq:Hid (a=b):=by
     show _=_
     have h:=HW.out.1
     rw[List.take_length,HL.out,List.take_length] at h
     exact h
    go_wp2
    go_ret
    exact⟨by rw[decide_eq_true heq.out];rfl,HW.out.2⟩
 ·have hne:Hid (¬a=b):=fun e=>hl (by rw[e])
  have hb1:((a.length:Int) != b.length)=true:=by simp;omega
  go_enter Try.func41,Try.ntmps41
  go_wp2
  go_ret
  exact⟨by rw[decide_eq_false hne.out];rfl,jC.refl _⟩
def aU (l:List Tr):Prop:=∀x∈l,∀(y:Tr) (v u:Value) (w:World),jL w x v→jL w y u→Calls Try.prog 26 #[v,u] w fun r w'=>∃b,r=.returned (.bool b)∧(b=true↔x=y)∧jC w w'
theorem ZW (l l2:List Tr) (lv lv2:Value) (vs vs2:List Value) (w:World) (hr:yT w lv vs) (hk:k4 w l vs) (hr2:yT w lv2 vs2) (hk2:k4 w l2 vs2) (hs:aU l) :
 Calls Try.prog 42 #[lv,lv2,.func (.func 26) #[] #[]] w fun r w'=>∃b,r=.returned (.bool b)∧(b=true↔l=l2)∧jC w w':=by
 have HR:=zh hr
 have HK:=zh hk
 have HR2:=zh hr2
 have HK2:=zh hk2
 have HS:=zh hs
 have hkl:=hk.length
 have hkl2:=hk2.length
 obtain⟨a,c,rfl,hlc,hc,hz1,hz2⟩:=hr
 obtain⟨a2,c2,rfl,hlc2,hc2,hz3,hz4⟩:=hr2
 unfold jI at hc hc2
 rw[hkl] at HR hlc⊢
 rw[hkl2] at HR2 hlc2⊢
 have kV:l.length≤9223372036854775807:=by omega
 have hlen2:l2.length≤9223372036854775807:=by omega
 clear hz1 hz2 hz3 hz4 hk hk2 hkl hkl2 hlc hc hlc2 hc2 hs
 by_cases hl:l.length=l2.length
 ·have HL:=zh hl
  rw[← hl] at HR2⊢
  clear hl hlen2
  go_enter Try.func42,Try.ntmps42
  go_wp2_with fail
  go_loopw [17] (fun i wr=>∃k:Nat,k≤l.length∧i=.int .i64 k∧Hid (l.take k=l2.take k∧jC w wr)) (fun i _=>l.length - (intOf i).toNat)
  case atStart=>exact⟨0,Nat.zero_le _,rfl,by show _∧_;exact⟨by simp,jC.refl _⟩⟩
  case round=>
   obtain⟨k,hk,rfl,HW⟩:=hrel
   by_cases hlt:k < l.length
   ·obtain⟨x,hx⟩:∃x,l[k]? = some x:=⟨_,List.getElem?_eq_getElem hlt⟩
    have hltb:k < l2.length:=by have:=HL.out;omega
    obtain⟨y,hy⟩:∃y,l2[k]? = some y:=⟨_,List.getElem?_eq_getElem hltb⟩
    obtain⟨xv,hxv,hnx⟩:=HK.out.get hx
    obtain⟨yv,hyv,hny⟩:=HK2.out.get hy
    obtain⟨b,off,rfl,hc6⟩:∃b off,a=some ⟨b,off,none⟩∧kQ wr b (off+k*6) xv:=by
     obtain⟨a,c,e,_,_,_,h⟩:=HR.out
     injection e with e1 e2 e3
     subst e1
     obtain⟨b,off,e,h6⟩:=h k xv hxv
     exact⟨b,off,e,h6.grew HW.out.2⟩
    obtain⟨b',off',rfl,hd6⟩:∃b off,a2=some ⟨b,off,none⟩∧kQ wr b (off+k*6) yv:=by
     obtain⟨a,c,e,_,_,_,h⟩:=HR2.out
     injection e with e1 e2 e3
     subst e1
     obtain⟨b,off,e,h6⟩:=h k yv hyv
     exact⟨b,off,e,h6.grew HW.out.2⟩
    obtain⟨xk,xn,xu,xs,xa4,xn4,xc4,xa5,xn5,xc5,rfl⟩:=hnx.node6
    obtain⟨yk,yn,yu,ys,ya4,yn4,yc4,ya5,yn5,yc5,rfl⟩:=hny.node6
    obtain⟨e0,e1,e2,e3,e4,e5⟩:=hc6.get
    obtain⟨f0,f1,f2,f3,f4,f5⟩:=hd6.get
    have g0:=fun o=>((jC.refl wr).alloc o).cell f0
    have g1:=fun o=>((jC.refl wr).alloc o).cell f1
    have g2:=fun o=>((jC.refl wr).alloc o).cell f2
    have g3:=fun o=>((jC.refl wr).alloc o).cell f3
    have g4:=fun o=>((jC.refl wr).alloc o).cell f4
    have g5:=fun o=>((jC.refl wr).alloc o).cell f5
    have HNX:=zh (And.intro hnx hny)
    have HX:=zh (And.intro hx hy)
    have HXM:=zh (List.mem_of_getElem? hx)
    clear hc6 hd6 hx hxv hnx hy hyv hny f0 f1 f2 f3 f4 f5
    have yD:(k:Int) < l.length:=by omega
    go_wp2_with fail
    refine (HS.out x HXM.out y _ _ _ (HNX.out.1.grew (HW.out.2.trans (((jC.refl wr).alloc _).alloc _))) (HNX.out.2.grew (HW.out.2.trans (((jC.refl wr).alloc _).alloc _)))).mono ?_
    rintro r w3 ⟨bb,rfl,hbb,hg⟩
    have HG:=zh (HW.out.2.trans (jC.trans (((jC.refl wr).alloc _).alloc _) hg))
    clear hg
    cases bb
    ·have HBB:Hid (¬x=y):=fun e=>absurd (hbb.2 e) (by decide)
     clear hbb
     go_wp2_with fail
     go_ret
     refine⟨false,rfl,⟨fun h=>absurd h (by decide),fun h=>?_⟩,HG.out⟩
     obtain⟨h1,h2⟩:=HX.out
     rw[h,h2] at h1
     injection h1 with h1
     exact absurd h1.symm HBB.out
    ·have HBB:Hid (x=y):=hbb.1 rfl
     clear hbb
     go_wp2_with fail
     go_roundw
     case rel=>exact⟨k+1,by omega,by go_num,by
      show _∧_
      obtain⟨h1,h2⟩:=HX.out
      exact⟨by rw[List.take_add_one,List.take_add_one,HW.out.1,h1,h2,HBB.out],HG.out⟩⟩
     case measure=>simp[intOf];omega
   ·have ek:k=l.length:=by omega
    subst ek
    have heq:Hid (l=l2):=by
     show _=_
     have h:=HW.out.1
     rw[List.take_length,HL.out,List.take_length] at h
     exact h
    go_wp2
    go_ret
    exact⟨true,rfl,⟨fun _=>heq.out,fun _=>rfl⟩,HW.out.2⟩
 ·have hne:Hid (¬l=l2):=fun e=>hl (by rw[e])
  have hb1:((l.length:Int) != l2.length)=true:=by simp;omega
  go_enter Try.func42,Try.ntmps42
  go_wp2
  go_ret
  exact⟨false,rfl,⟨fun h=>absurd h (by decide),fun h=>absurd h hne.out⟩,jC.refl _⟩
-- SAME
theorem aV:∀(m:Nat) (t:Tr),t.size≤m→∀(t2:Tr) (v v2:Value) (w:World),jL w t v→jL w t2 v2 →
 Calls Try.prog 26 #[v,v2] w fun r w'=>∃b,r=.returned (.bool b)∧(b=true↔t=t2)∧jC w w':=by
 intro m
 induction m with
 | zero=>intro t ht;have:=t.size_pos;omega
 | succ m ih=>
 intro t ht t2 v v2 w hn hn2
 obtain⟨k,n,u,s,keys,l⟩:=t
 obtain⟨k2,n2,u2,s2,keys2,l2⟩:=t2
 simp only[jL] at hn hn2
 obtain⟨hb,kv,lv,vs,rfl,hks,kS,kP⟩:=hn
 obtain⟨hb2,kv2,lv2,vs2,rfl,hks2,hrows2,hkids2⟩:=hn2
 have HKS:=zh hks
 have HKS2:=zh hks2
 have HR:=zh (And.intro kS kP)
 have HR2:=zh (And.intro hrows2 hkids2)
 obtain⟨a4,c4,rfl,hx1,hx2,hx3,hx4⟩:=hks
 obtain⟨b4,d4,rfl,hy1,hy2,hy3,hy4⟩:=hks2
 clear hx1 hx2 hx3 hx4 hy1 hy2 hy3 hy4
 obtain⟨a5,c5,rfl,hll,hc5,hx3,hx4⟩:=kS
 obtain⟨b5,d5,rfl,hll2,hd5,hy3,hy4⟩:=hrows2
 have hS:Hid (aU l):=fun x hx y v u w h1 h2=>ih x (by have:=k9 hx;simp only[Tr.size] at ht;omega) y v u w h1 h2
 clear hx3 hx4 hll hy3 hy4 hll2 hc5 hd5 hb hb2 kP hkids2 ih ht
 by_cases h0:k=k2
 rotate_left
 ·have hne:Hid (¬(Tr.mk k n u s keys l=Tr.mk k2 n2 u2 s2 keys2 l2)):=fun e=>h0 (by injection e)
  have hB:(k == k2)=false:=by simp[h0]
  clear h0
  go_enter Try.func26,Try.ntmps26
  go_wp2_with fail
  go_ret
  exact⟨false,rfl,⟨fun h=>absurd h (by decide),fun h=>absurd h hne.out⟩,((jC.refl w).alloc _).alloc _⟩
 subst h0
 by_cases h1:n=n2
 rotate_left
 ·have hne:Hid (¬(Tr.mk k n u s keys l=Tr.mk k n2 u2 s2 keys2 l2)):=fun e=>h1 (by injection e)
  have hB:(n == n2)=false:=by simp[h1]
  clear h1
  go_enter Try.func26,Try.ntmps26
  go_wp2_with fail
  go_ret
  exact⟨false,rfl,⟨fun h=>absurd h (by decide),fun h=>absurd h hne.out⟩,((jC.refl w).alloc _).alloc _⟩
 subst h1
 by_cases h2:u=u2
 rotate_left
 ·have hne:Hid (¬(Tr.mk k n u s keys l=Tr.mk k n u2 s2 keys2 l2)):=fun e=>h2 (by injection e)
  have hB:(u == u2)=false:=by simp[h2]
  clear h2
  go_enter Try.func26,Try.ntmps26
  go_wp2_with fail
  go_ret
  exact⟨false,rfl,⟨fun h=>absurd h (by decide),fun h=>absurd h hne.out⟩,((jC.refl w).alloc _).alloc _⟩
 subst h2
 by_cases h3:s=s2
 rotate_left
 ·have hne:Hid (¬(Tr.mk k n u s keys l=Tr.mk k n u s2 keys2 l2)):=fun e=>h3 (by injection e)
  have hB:(s.toList == s2.toList)=false:=by rw[qL];exact decide_eq_false h3
  clear h3
  go_enter Try.func26,Try.ntmps26
  go_wp2_with fail
  go_ret
  exact⟨false,rfl,⟨fun h=>absurd h (by decide),fun h=>absurd h hne.out⟩,((jC.refl w).alloc _).alloc _⟩
 subst h3
 by_cases h4:keys=keys2
 rotate_left
 ·have hne:Hid (¬(Tr.mk k n u s keys l=Tr.mk k n u s keys2 l2)):=fun e=>h4 (by injection e)
  have hB:decide (keys=keys2)=false:=decide_eq_false h4
  have HBD:=zh hB
  clear h4 hB
  go_enter Try.func26,Try.ntmps26
  go_wp2_with fail
  have hh:=K6 keys keys2 _ _ _ (HKS.out.grew (((jC.refl w).alloc (.cells #[.int .i64 k,.int .i64 n,.int .u64 u,.string s,.slice a4 keys.length c4,.slice a5 vs.length c5] 26)).alloc (.cells #[.int .i64 k,.int .i64 n,.int .u64 u,.string s,.slice b4 keys2.length d4,.slice b5 vs2.length d5] 26))) (HKS2.out.grew (((jC.refl w).alloc (.cells #[.int .i64 k,.int .i64 n,.int .u64 u,.string s,.slice a4 keys.length c4,.slice a5 vs.length c5] 26)).alloc (.cells #[.int .i64 k,.int .i64 n,.int .u64 u,.string s,.slice b4 keys2.length d4,.slice b5 vs2.length d5] 26)))
  rw[HBD.out] at hh
  refine hh.mono ?_
  clear hh
  rintro r w3 ⟨rfl,hg⟩
  have HG:=zh (jC.trans (((jC.refl w).alloc (.cells #[.int .i64 k,.int .i64 n,.int .u64 u,.string s,.slice a4 keys.length c4,.slice a5 vs.length c5] 26)).alloc (.cells #[.int .i64 k,.int .i64 n,.int .u64 u,.string s,.slice b4 keys2.length d4,.slice b5 vs2.length d5] 26)) hg)
  clear hg
  go_wp2_with fail
  go_ret
  exact⟨false,rfl,⟨fun h=>absurd h (by decide),fun h=>absurd h hne.out⟩,HG.out⟩
 subst h4
 go_enter Try.func26,Try.ntmps26
 go_wp2_with fail
 have hA1:=heap_alloc_new w (.cells #[.int .i64 k,.int .i64 n,.int .u64 u,.string s,.slice a4 keys.length c4,.slice a5 vs.length c5] 26)
 have hG1:=(jC.refl w).alloc (.cells #[.int .i64 k,.int .i64 n,.int .u64 u,.string s,.slice a4 keys.length c4,.slice a5 vs.length c5] 26)
 have hS1:(w.alloc (.cells #[.int .i64 k,.int .i64 n,.int .u64 u,.string s,.slice a4 keys.length c4,.slice a5 vs.length c5] 26)).heap.size=w.heap.size+1:=World.size_alloc _ _
 generalize w.alloc (.cells #[.int .i64 k,.int .i64 n,.int .u64 u,.string s,.slice a4 keys.length c4,.slice a5 vs.length c5] 26)=w1 at *
 have hA2:=heap_alloc_new w1 (.cells #[.int .i64 k,.int .i64 n,.int .u64 u,.string s,.slice b4 keys.length d4,.slice b5 vs2.length d5] 26)
 have hG2:=(jC.refl w1).alloc (.cells #[.int .i64 k,.int .i64 n,.int .u64 u,.string s,.slice b4 keys.length d4,.slice b5 vs2.length d5] 26)
 rw[hS1] at hA2
 generalize w1.alloc (.cells #[.int .i64 k,.int .i64 n,.int .u64 u,.string s,.slice b4 keys.length d4,.slice b5 vs2.length d5] 26)=w2 at *
 replace hA1:=hG2.heap hA1
 have HG:=zh (hG1.trans hG2)
 clear hG1 hG2 hS1
 have hh:=K6 keys keys _ _ _ (HKS.out.grew HG.out) (HKS2.out.grew HG.out)
 rw[decide_eq_true rfl] at hh
 refine hh.mono ?_
 clear hh
 rintro r w3 ⟨rfl,hg⟩
 replace hA1:=hg.heap hA1
 replace hA2:=hg.heap hA2
 replace HG:=zh (HG.out.trans hg)
 have a0:=jA hA1 5 _ rfl
 have b0:=jA hA2 5 _ rfl
 clear hA1 hA2 hg
 go_wp2_with fail
 refine (ZW l l2 _ _ vs vs2 w3 (HR.out.1.grew HG.out) (HR.out.2.grew HG.out) (HR2.out.1.grew HG.out) (HR2.out.2.grew HG.out) hS.out).mono ?_
 rintro r w4 ⟨bb,rfl,hbb,hg⟩
 have HX:=zh (And.intro hbb (HG.out.trans hg))
 clear hbb hg
 go_wp2_with fail
 go_ret
 refine⟨bb,rfl,⟨fun h=>?_,fun h=>HX.out.1.2 (by injection h)⟩,HX.out.2⟩
 rw[HX.out.1.1 h]
theorem V2 {o:Oper} {a:Act} {w:World} {K:Act→World→Prop} {Q:Exit→Act→World→Prop} (p x:Operand) (ho:o.op=.store 26 p x) (hd:o.dst=none) (g:Nat) (k n u:Int) (s:ByteArray) (a4:Option Addr) (n4 c4:Nat) (a5:Option Addr) (n5 c5:Nat)
 (hp:a.eval p=.pointer (some ⟨g,0,none⟩)) (hx:a.eval x=.agg #[.int .i64 k,.int .i64 n,.int .u64 u,.string s,.slice a4 n4 c4,.slice a5 n5 c5]) (b0 b1 b2 b3 b4 b5:Value)
 (hz:w.heap[g]? = some (.cells #[b0,b1,b2,b3,b4,b5] 26 (0,0)))
 (h:∀w',Moved (fun k=>k=g) w w'→w'.heap[g]? = some (.cells #[.int .i64 k,.int .i64 n,.int .u64 u,.string s,.slice a4 n4 c4,.slice a5 n5 c5] 26 (0,0))→K a w'):o.wp Try.prog a w K Q:=by
 have hk:=h _ (kC w g (.int .i64 k) (.int .i64 n) (.int .u64 u) (.string s) (.slice a4 n4 c4) (.slice a5 n5 c5)) (vB hz _ _ _ _ _ _)
 have HK:=zh hk
 clear h hk
 have z0:=jA hz 0 _ rfl
 have z1:=jA hz 1 _ rfl
 have z2:=jA hz 2 _ rfl
 have z3:=jA hz 3 _ rfl
 have z4:=jA hz 4 _ rfl
 have z5:=jA hz 5 _ rfl
 have f0:=jB hz 0
 have f1:=jB hz 1
 have f2:=jB hz 2
 have f3:=jB hz 3
 have f4:=jB hz 4
 have f5:=jB hz 5
 clear hz
 unfold Oper.wp execOp
 simp only[ho]
 rw[hp,hx]
 simp[hd,go_sem,z0,z1,z2,z3,z4,z5,f0,f1,f2,f3,f4,f5]
 exact HK.out
theorem vQ {ops:Array Oper} {rest:List Oper} {o:Oper} {a:Act} {w:World} {Q:Exit→Act→World→Prop} (hgd:o.guard=none) (p x:Operand) (ho:o.op=.store 26 p x) (hd:o.dst=none) (g:Nat) (k n u:Int) (s:ByteArray) (a4:Option Addr) (n4 c4:Nat) (a5:Option Addr) (n5 c5:Nat)
 (hp:a.eval p=.pointer (some ⟨g,0,none⟩)) (hx:a.eval x=.agg #[.int .i64 k,.int .i64 n,.int .u64 u,.string s,.slice a4 n4 c4,.slice a5 n5 c5]) (b0 b1 b2 b3 b4 b5:Value)
 (hz:w.heap[g]? = some (.cells #[b0,b1,b2,b3,b4,b5] 26 (0,0)))
 (h:∀w',Moved (fun k=>k=g) w w'→w'.heap[g]? = some (.cells #[.int .i64 k,.int .i64 n,.int .u64 u,.string s,.slice a4 n4 c4,.slice a5 n5 c5] 26 (0,0))→wpList Try.prog ops Q rest a w'):wpList Try.prog ops Q (o::rest) a w:=
 wpList_plain hgd fun _ hK=>V2 p x ho hd g k n u s a4 n4 c4 a5 n5 c5 hp hx b0 b1 b2 b3 b4 b5 hz fun w' hm hb=>hK _ _ (h w' hm hb)
end Go.Proofs.Ytfbeepkogcmlmaa
