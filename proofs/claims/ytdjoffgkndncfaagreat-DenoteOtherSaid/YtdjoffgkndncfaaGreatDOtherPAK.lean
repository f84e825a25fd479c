/-Texts-/
import Derived.Test.YtdjoffgkndncfaaGreatDOtherPAF
import Derived.Test.YtdjoffgkndncfaaGreatDOtherPAD
set_option linter.unusedVariables false
set_option linter.unusedSimpArgs false
set_option maxHeartbeats 16000000
set_option maxRecDepth 100000
namespace Go.Proofs.YtdjoffgkndncfaaGreat
open Go.Proofs.Tryz
open Go Go.ChangeShapes Go.WideShapes Go.ChangeAt Go.RowKit Go.Joins Go.Deep
variable {w w' wr W w0:World} {cs:Array Value} {b B size n g:Nat} {a0 a1 a2 a3 v:Value} {l xs vs:List Value} {ss:List ByteArray} {x:Tr} {ops:Array Oper} {rest:List Oper} {o:Oper} {a:Act} {Q:Exit→Act→World→Prop} {s:ByteArray} {R T:Nat→Prop} {ts:List Tr}
theorem jA {p:Nat} {t:TypeId} (h:w.heap[p]? = some (.cells cs t (0,0))) (k:Nat) (v:Value) (hv:cs[k]? = some v):w.cell? ⟨p,k,none⟩=some v:=by
 rw[cell_of_row w p k _ _ _ h];exact hv
theorem sqr3 {t:TypeId} (h:w.heap[b]? = some (.cells (a0::a1::a2::l).toArray t (0,0))):w.cell? ⟨b,0,none⟩=some a0∧w.cell? ⟨b,1,none⟩=some a1∧w.cell? ⟨b,2,none⟩=some a2:=⟨jA h 0 _ rfl,jA h 1 _ rfl,jA h 2 _ rfl⟩
theorem sqr4 {t:TypeId} (h:w.heap[b]? = some (.cells (a0::a1::a2::a3::l).toArray t (0,0))):w.cell? ⟨b,0,none⟩=some a0∧w.cell? ⟨b,1,none⟩=some a1∧w.cell? ⟨b,2,none⟩=some a2∧w.cell? ⟨b,3,none⟩=some a3:=⟨jA h 0 _ rfl,jA h 1 _ rfl,jA h 2 _ rfl,jA h 3 _ rfl⟩
theorem sqr6 {t:TypeId} {a4 a5:Value} (h:w.heap[b]? = some (.cells (a0::a1::a2::a3::a4::a5::l).toArray t (0,0))):w.cell? ⟨b,0,none⟩=some a0∧w.cell? ⟨b,1,none⟩=some a1∧w.cell? ⟨b,2,none⟩=some a2∧w.cell? ⟨b,3,none⟩=some a3∧w.cell? ⟨b,4,none⟩=some a4∧w.cell? ⟨b,5,none⟩=some a5:=⟨jA h 0 _ rfl,jA h 1 _ rfl,jA h 2 _ rfl,jA h 3 _ rfl,jA h 4 _ rfl,jA h 5 _ rfl⟩
theorem sqal (w:World) (o:Obj):(w.alloc o).heap[w.heap.size]? = some o∧jC w (w.alloc o):=⟨qc w o,(jC.refl w).alloc o⟩
def zC:Value:=.agg #[.int .i64 0,.int .i64 0,.int .u64 0,.string ⟨#[]⟩,.slice none 0 0,.slice none 0 0]
def vO:Value→List Value
 | .agg cs=>cs.toList
 | _=>[]
def QV (v:Value):Prop:=∃(k n u:Int) (s:ByteArray) (a4:Option Addr) (n4 c4:Nat) (a5:Option Addr) (n5 c5:Nat),v=.agg #[.int .i64 k,.int .i64 n,.int .u64 u,.string s,.slice a4 n4 c4,.slice a5 n5 c5]
theorem Tryz.infoNode:(Tryz.prog.info? 26).map (λi=>(i.zero,i.size,i.bytes))=some (some zC,6,88):=by kernel_rfl
theorem cJ:∃i0,Tryz.prog.info? 26=some i0∧i0.zero=some zC∧i0.size=6∧i0.bytes=88:=by
 have h:=Tryz.infoNode
 cases hq:Tryz.prog.info? 26 with
 | none=>simp[hq] at h
 | some i=>simp[hq] at h;exact⟨i,rfl,h.1,h.2.1,h.2.2⟩
theorem Tryz.infoStr:(Tryz.prog.info? 9).map (λi=>(i.zero,i.size,i.bytes))=some (some (.string ⟨#[]⟩),1,16):=by kernel_rfl
theorem fC:∃i0,Tryz.prog.info? 9=some i0∧i0.zero=some (.string ⟨#[]⟩)∧i0.size=1∧i0.bytes=16:=by
 have h:=Tryz.infoStr
 cases hq:Tryz.prog.info? 9 with
 | none=>simp[hq] at h
 | some i=>simp[hq] at h;exact⟨i,rfl,h.1,h.2.1,h.2.2⟩
theorem QL (h:QV v):(vO v).length=6:=by
 obtain⟨k,n,u,s,a4,n4,c4,a5,n5,c5,rfl⟩:=h;rfl
theorem lM (h:QV v):∀u∈vO v,u.oneCell'=true:=by
 obtain⟨k,n,u,s,a4,n4,c4,a5,n5,c5,rfl⟩:=h;intro x hx;simp only[vO,qp,List.not_mem_nil,or_false] at hx;rcases hx with rfl|rfl|rfl|rfl|rfl|rfl<;>rfl
theorem jR {e:TypeId} (h:w.ownsRow B e size v n xs):∃a c,v=.slice a n c∧n≤c∧kI c∧(a=none→c=0):=by
 rcases h.2 with ⟨rfl,hn⟩|⟨g,cap,cur,rfl,_,_,hn,hm,_⟩
 ·exact⟨none,0,by rw[hn],by omega,by unfold kI;omega,λ_=>rfl⟩
 exact⟨_,cap,rfl,hn,by unfold maxLen at hm;exact hm,(λh=>by cases h)⟩
theorem JO {B':Nat} {e:TypeId} (h:w.ownsRow B e size v n xs) (hb:B'≤B):w.ownsRow B' e size v n xs:=by
 obtain⟨h1,h2⟩:=h;refine⟨h1,?_⟩;rcases h2 with h2|⟨g,cap,cur,hv,hg,r⟩
 ·exact .inl h2
 exact .inr ⟨g,cap,cur,hv,by omega,r⟩
theorem yI {e:TypeId} (h:w.ownsRow B e size v n xs) (hg:jC w w'):w'.ownsRow B e size v n xs:=Moved.owns (Moved.of_grew (S:=λ_=>False) hg) h (λ_ _ h=>h)
def yM (w:World) (B:Nat) (v:Value) (vs:List Value):Prop:=w.ownsRow B 26 6 v vs.length (vs.flatMap vO)∧∀x∈vs,QV x
def zG (w:World) (B:Nat) (v:Value) (ss:List ByteArray):Prop:=w.ownsRow B 9 1 v ss.length (ss.map Value.string)
theorem yM.nil (w:World) (B:Nat):yM w B (.slice none 0 0) []:=⟨World.ownsRow_nil _ _ _ _,by simp⟩
theorem zG.nil (w:World) (B:Nat):zG w B (.slice none 0 0) []:=World.ownsRow_nil _ _ _ _
theorem yM.grew (h:yM w B v vs) (hg:jC w w'):yM w' B v vs:=⟨yI h.1 hg,h.2⟩
theorem zG.grew (h:zG w B v ss) (hg:jC w w'):zG w' B v ss:=yI h hg
theorem nY (g j:Nat):(⟨g,0,none⟩:Addr).add j=⟨g,0+j,none⟩:=VB _ g 0 j rfl
theorem zG.strs (h:zG w B v ss) (hz:∀s∈ss,kI s.size):zB w v ss:=by
 obtain⟨a,c,rfl,h1,h2,h3⟩:=jR h;refine⟨a,c,rfl,h1,h2,h3,λi s hs=>⟨hz s (qd hs),?_⟩⟩;rcases h.2 with ⟨e,hn⟩|⟨g,cap,cur,e,_⟩
 ·have:ss=[]:=List.length_eq_zero_iff.1 hn;subst this;simp at hs
 cases e;have:=World.ownsRow.cells h (g:=g) rfl i (.string s) (by simp[hs]);rw[nY] at this;exact⟨g,0,rfl,this⟩
theorem ZN (h6:∀x∈vs,QV x) {i:Nat} {x:Value} (hx:vs[i]? = some x) (j:Nat) (hj:j < 6):(vs.flatMap vO)[i*6+j]? = (vO x)[j]? := by
 induction vs generalizing i with
 | nil=>simp at hx
 | cons y r ih=>
  have hy:=QL (h6 y zp2);rw[List.flatMap_cons]
  cases i with
  | zero=>
   simp at hx;subst hx;rw[qy zo];simp
  | succ i=>
   rw[qs zo,hy,show (i+1)*6+j - 6=i*6+j by omega];exact ih (λx hx=>h6 x oL) eV
theorem yM.rows (h:yM w B v vs):y9 w v vs:=by
 obtain⟨hr,h6⟩:=h;obtain⟨a,c,rfl,h1,h2,h3⟩:=jR hr;refine⟨a,c,rfl,h1,h2,h3,λi x hx=>?_⟩;rcases hr.2 with ⟨e,hn⟩|⟨g,cap,cur,e,_⟩
 ·have:vs=[]:=List.length_eq_zero_iff.1 hn;subst this;simp at hx
 cases e;have hc:=World.ownsRow.cells hr (g:=g) rfl;have hf:=ZN h6 hx;obtain⟨k,n,u,s,a4,n4,c4,a5,n5,c5,rfl⟩:=h6 x (qd hx);have q:=λj hj u (hu:(vO _)[j]? = some u)=>hc (i*6+j) u ((hf j hj).trans hu);have q0:=q 0 zo _ rfl;have q1:=q 1 zo _ rfl;have q2:=q 2 zo _ rfl;have q3:=q 3 zo _ rfl;have q4:=q 4 zo _ rfl;have q5:=q 5 zo _ rfl;rw[nY] at q0 q1 q2 q3 q4 q5;exact⟨g,0,rfl,_,_,_,_,_,_,rfl,q0,by simpa [Nat.add_assoc] using q1,by simpa [Nat.add_assoc] using q2,by simpa [Nat.add_assoc] using q3,by simpa [Nat.add_assoc] using q4,by simpa [Nat.add_assoc] using q5⟩
def rowN (v:Value):Obj:=.cells (vO v).toArray 26 (0,0)
theorem vH (hgd:o.guard=none) (s x:Operand)
 (ho:o.op=.call {callee:=.builtin .append,args:=#[s,x],argTypes:=#[24,24]}) (B:Nat) (v:Value) (vs:List Value) (hs:a.eval s=v) (j5:yM w B v vs)
 (g c:Nat) (y:Value) (hx:a.eval x=.slice (some ⟨g,0,none⟩) 1 c) (hg:w.heap[g]? = some (rowN y)) (h6:QV y) (kE:vs.length+1≤1048576) (hB:B≤w.heap.size)
 (h:∀v' w',yM w' B v' (vs++[y])→w.grownBy w' v.ownBlock→yX w v.ownBlock v'.ownBlock→wpList prog ops Q rest (a.put o.dst v') w'):wpList prog ops Q (o::rest) a w:=by
 obtain⟨i0,hi,hz0,hz1,hz2⟩:=cJ
 have hnews:∀j u,(vO y)[j]? = some u→w.cell? ((⟨g,0,none⟩:Addr).add j)=some u:=by
  intro j u hj;rw[nY,cell_of_row w g (0+j) _ _ _ hg];simpa using hj
 obtain⟨v',w',hr,h2,h3,h4⟩:=vT (P:=prog) w B 24 o.type 26 i0 zC 6 88 underlying24 hi hz0 hz1 hz2 rfl zd v vs.length _ j5.1 ⟨g,0,none⟩ 1 c (vO y) (by rw[QL h6]) hnews (lM h6) gM zo hB;refine wpList_plain hgd λ_ hK=>Lib.wp_append_run w s x 24 24 ho v _ hs hx v' w' hr (hK _ _ (h v' w' ⟨?_,?_⟩ h3 h4))
 ·rw[zb,yg];simpa using h2
 intro x hx;rcases xf.1 hx with hx|hx
 ·exact j5.2 x hx
 simp at hx;subst hx;exact h6
theorem J6 (hgd:o.guard=none) (s x:Operand)
 (ho:o.op=.call {callee:=.builtin .append,args:=#[s,x],argTypes:=#[23,23]}) (B:Nat) (v:Value) (ss:List ByteArray) (hs:a.eval s=v) (j5:zG w B v ss)
 (sv:Value) (l2:List ByteArray) (hx:a.eval x=sv) (hsv:zB w sv l2) (kE:ss.length+l2.length≤1099511627776) (hB:B≤w.heap.size)
 (h:∀v' w',zG w' B v' (ss++l2)→w.grownBy w' v.ownBlock→yX w v.ownBlock v'.ownBlock→wpList prog ops Q rest (a.put o.dst v') w'):wpList prog ops Q (o::rest) a w:=by
 obtain⟨i0,hi,hz0,hz1,hz2⟩:=fC;obtain⟨sa,cap,rfl,_,_,zX,hc⟩:=hsv
 cases sa with
 | none=>
  have h0:l2=[]:=by
   cases l2 with
   | nil=>rfl
   | cons y r=>obtain⟨_,b,off,e,_⟩:=hc 0 y rfl;cases e
  subst h0;have:=zX rfl;subst this;refine wpList_append_own_none hgd s x 23 ho B 9 i0 1 underlying23 hi v ss.length _ hs j5 hx ?_;exact h v w zp26 ⟨rfl,rfl,rfl,zr _,λ_ _ _=>rfl⟩ (yX.refl _ _)
 | some ad=>
  have hnews:∀j u,(l2.map Value.string)[j]? = some u→w.cell? (ad.add j)=some u:=by
   intro j u hj;rw[xj] at hj
   cases hq:l2[j]? with
   | none=>rw[hq] at hj;cases hj
   | some s=>
    rw[hq] at hj;obtain⟨_,b,off,e,kM⟩:=hc j s hq;cases e;simp at hj;subst hj;rw[VB _ b off j rfl];exact kM
  obtain⟨v',w',hr,h2,h3,h4⟩:=vT (P:=prog) w B 23 o.type 9 i0 (.string ⟨#[]⟩) 1 16 underlying23 hi hz0 hz1 hz2 rfl zd v ss.length _ j5 ad l2.length cap (l2.map Value.string) zp2 hnews (by intro u hu;obtain⟨s,_,rfl⟩:=qh.1 hu;rfl) gM zo hB;refine wpList_plain hgd λ_ hK=>Lib.wp_append_run w s x 23 23 ho v _ hs hx v' w' hr (hK _ _ (h v' w' ?_ h3 h4));unfold zG;rw[zb,xb];exact h2
theorem uN {e:TypeId} (h:wr.ownsRow w.heap.size e size v n xs) (hg:jC w wr) (hgr:wr.grownBy w' v.ownBlock):jC w w':=by
 have hgr2:Moved (λk=>some k=v.ownBlock) wr w':=Moved.of_grown hgr;refine⟨hgr2.os.trans hg.os,hgr2.tape.trans hg.tape,hgr2.output.trans hg.output,zf hg.size hgr2.size,λk hk=>?_⟩;refine (hgr2.block k (qk hk hg.size) λe=>?_).trans (hg.block k hk);rcases h.2 with ⟨rfl,hn⟩|⟨g,cap,cur,rfl,hb,_,_⟩
 ·cases e
 have:k=g:=by injection e
 omega
theorem lN (w:World) (s:ByteArray) (hs:kI s.size):zB (w.alloc (.cells #[.string s] 9)) (.slice (some ⟨w.heap.size,0,none⟩) 1 1) [s]:=by
 have h:=qc w (.cells #[.string s] 9);refine⟨_,1,rfl,by simp,by unfold kI;omega,(λh=>by cases h),λi y hy=>?_⟩;have hi:i=0:=by have:=(zi.1 hy).1;simp at this;omega
 subst hi;simp at hy;subst hy;exact⟨hs,_,_,rfl,jA h 0 _ rfl⟩
/-! ### strings -/
def JT (s:ByteArray) (m:Nat):ByteArray:=s.extract 0 (min s.size m)
theorem Z2 (s:ByteArray) (m:Nat):(JT s m).size=min s.size m:=by simp[JT]
theorem nZ (w:World) (v:Value) (l:List ByteArray) (h:zB w v l) (hl:l.length≤1099511627776) :
 Calls prog 50 #[v] w λr w'=>∃v',r=.returned v'∧zG w' w.heap.size v' l∧jC w w':=by
 have HX:=zh h;obtain⟨a,c,rfl,_,_,zX,_⟩:=h;have j5:Hid (zG w w.heap.size (.slice none 0 0) []):=zG.nil _ _;go_enter func50,ntmps50;go_wp2_with (at_builtin;refine J6 rfl _ _ rfl w.heap.size (.slice none 0 0) [] rfl j5.out _ l rfl HX.out zp6 (zr _) ?_;intro v' w3 hown2 hgr hqq;obtain⟨va2,vc2,rfl,_,_,_⟩:=jR hown2;have HO:=zh (qa hown2 hgr);clear hown2 hgr hqq);go_ret;refine⟨_,rfl,by simpa using HO.1,?_⟩;exact (Below.refl w.heap.size w).grown HO.2 (zr _) (λk hk=>by cases hk)
theorem min_nat (a b:Nat):min (a:Int) (b:Int)=((min a b:Nat):Int):=by omega
theorem lO (w:World) (s:ByteArray) (m:Nat) (hs:kI s.size) (hm:m≤1000) :
 Calls prog 113 #[.string s,.int .i64 m] w λr w'=>r=.returned (.string (JT s m))∧w=w':=by
 unfold kI at hs;have h1:min (s.size:Int) (m:Int)=((min s.size m:Nat):Int):=min_nat _ _;obtain⟨k,hk⟩:∃k:Nat,min s.size m=k:=⟨_,rfl⟩;rw[hk] at h1;have hks:k≤s.size:=by omega
 have hki:(k:Int)≤s.size:=by omega
 have HK:=zh hk;clear hk;go_enter func113,ntmps113;go_wp2
 ·go_ret;exact⟨by rw[JT,HK,show m=k by have:=HK.out;omega];rfl,rfl⟩
 go_ret;exact⟨by rw[JT,HK,show k=s.size by have:=HK.out;omega];simp,rfl⟩
mutual
def qA (w:World) (B:Nat):Tr→Value→(Nat→Prop)→Prop
 | .mk k n u s keys l,v,S=>(kY k∧kY n∧KG u∧kI s.size∧∀x∈keys,kI x.size)∧∃kv lv vs S',v=.agg #[.int .i64 k,.int .i64 n,.int .u64 u,.string s,kv,lv] ∧
  zG w B kv keys∧yM w B lv vs ∧
  (∀g,kv.ownBlock=some g→S g∧¬S' g)∧(∀g,lv.ownBlock=some g→S g∧¬S' g)∧(∀g,kv.ownBlock=some g→lv.ownBlock≠some g)∧(∀g,S' g→S g)∧zH w B l vs S'
def zH (w:World) (B:Nat):List Tr→List Value→(Nat→Prop)→Prop
 | [],vs,_=>vs=[]
 | t::r,vs,S=>∃v vr S1 S2,vs=v::vr∧(∀g,S1 g→S g)∧(∀g,S2 g→S g)∧(∀g,S1 g→¬S2 g)∧qA w B t v S1∧zH w B r vr S2
end
mutual
theorem qA.kept {w w':World} {B:Nat} {R:Nat→Prop} (hm:Moved R w w'):∀{t:Tr} {v:Value} {S:Nat→Prop},qA w B t v S→(∀g,S g→¬R g)→qA w' B t v S
 | .mk k n u s keys l,v,S,⟨hb,kv,lv,vs,S',e,h1,h2,h3,h4,h5,h6,h7⟩,hd=>
  ⟨hb,kv,lv,vs,S',e,Moved.owns hm h1 (λg hg=>hd g (h3 g hg).1),⟨Moved.owns hm h2.1 (λg hg=>hd g (h4 g hg).1),h2.2⟩,h3,h4,h5,h6,zH.kept hm h7 (λg hg=>hd g (h6 g hg))⟩
theorem zH.kept {w w':World} {B:Nat} {R:Nat→Prop} (hm:Moved R w w'):∀{l:List Tr} {vs:List Value} {S:Nat→Prop},zH w B l vs S→(∀g,S g→¬R g)→zH w' B l vs S
 | [],_,_,h,_=>h
 | t::r,_,S,⟨v,vr,S1,S2,e,h1,h2,h3,h4,h5⟩,hd=>⟨v,vr,S1,S2,e,h1,h2,h3,qA.kept hm h4 (λg hg=>hd g (h1 g hg)),zH.kept hm h5 (λg hg=>hd g (h2 g hg))⟩
end
section
variable {w w':World} {B:Nat} {v:Value} {vs:List Value} {t:Tr} {l:List Tr} {S T:Nat→Prop}
theorem qA.grew (h:qA w B t v S) (hg:jC w w'):qA w' B t v S:=h.kept (Moved.of_grew (S:=λ_=>False) hg) (λ_ _ h=>h)
theorem zH.grew (h:zH w B l vs S) (hg:jC w w'):zH w' B l vs S:=h.kept (Moved.of_grew (S:=λ_=>False) hg) (λ_ _ h=>h)
theorem qA.mono (h:qA w B t v S) (hS:∀g,S g→T g):qA w B t v T:=by
 cases t;simp only[qA] at h⊢;obtain⟨hb,kv,lv,vs,S',e,h1,h2,h3,h4,h5,h6,h7⟩:=h;exact⟨hb,kv,lv,vs,S',e,h1,h2,λg hg=>⟨hS g (h3 g hg).1,(h3 g hg).2⟩,λg hg=>⟨hS g (h4 g hg).1,(h4 g hg).2⟩,h5,λg hg=>hS g (h6 g hg),h7⟩
theorem zH.mono (h:zH w B l vs S) (hS:∀g,S g→T g):zH w B l vs T:=by
 cases l with
 | nil=>exact h
 | cons t r=>
  simp only[zH] at h⊢;obtain⟨v,vr,S1,S2,e,h1,h2,h3,h4,h5⟩:=h;exact⟨v,vr,S1,S2,e,λg hg=>hS g (h1 g hg),λg hg=>hS g (h2 g hg),h3,h4,h5⟩
theorem qA.node6 (h:qA w B t v S):QV v:=by
 cases t;simp only[qA] at h;obtain⟨_,kv,lv,vs,S',rfl,h1,h2,_⟩:=h;obtain⟨a4,c4,rfl,_⟩:=jR h1;obtain⟨a5,c5,rfl,_⟩:=jR h2.1;exact⟨_,_,_,_,_,_,_,_,_,_,rfl⟩
mutual
theorem qA.node {w:World} {B:Nat}:∀{t:Tr} {v:Value} {S:Nat→Prop},qA w B t v S→jM w t v
 | .mk k n u s keys l,v,S,⟨hb,kv,lv,vs,S',e,h1,h2,_,_,_,_,h7⟩=>⟨⟨hb.1,hb.2.1,hb.2.2.1,hb.2.2.2.1⟩,kv,lv,vs,e,h1.strs hb.2.2.2.2,h2.rows,zH.kids h7⟩
theorem zH.kids {w:World} {B:Nat}:∀{l:List Tr} {vs:List Value} {S:Nat→Prop},zH w B l vs S→kZ w l vs
 | [],_,_,h=>h
 | t::r,_,S,⟨v,vr,S1,S2,e,_,_,_,h4,h5⟩=>⟨v,vr,e,qA.node h4,zH.kids h5⟩
end
theorem zH.length (h:zH w B l vs S):vs.length=l.length:=h.kids.length
theorem zH.app {l2:List Tr} {vs2:List Value} (h:zH w B l vs S) (h2:zH w B l2 vs2 T) (hd:∀g,S g→¬T g):zH w B (l++l2) (vs++vs2) (λg=>S g∨T g):=by
 induction l generalizing vs S with
 | nil=>simp only[zH] at h;subst h;exact h2.mono (λg=>.inr)
 | cons t r ih=>
  simp only[zH] at h;obtain⟨v,vr,S1,S2,rfl,h1,h2',h3,h4,h5⟩:=h;simp only[qz,zH];exact⟨v,vr++vs2,S1,λg=>S2 g∨T g,rfl,λg hg=>.inl (h1 g hg),λg hg=>hg.imp (h2' g) id,λg hg hh=>hh.elim (h3 g hg) (hd g (h1 g hg)),h4,ih h5 (λg hg=>hd g (h2' g hg))⟩
theorem zH.one (h:qA w B t v S):zH w B [t] [v] S:=by
 simp only[zH];exact⟨v,[],S,λ_=>False,rfl,λ_ h=>h,λ_ h=>h.elim,λ_ _ h=>h,h,rfl⟩
end
def JB (w w':World) (g:Nat):Prop:=w.heap.size≤g∧g < w'.heap.size
mutual
theorem qA.base {w:World} {B B':Nat} (hb:B'≤B):∀{t:Tr} {v:Value} {S:Nat→Prop},qA w B t v S→qA w B' t v S
 | .mk k n u s keys l,v,S,⟨hb0,kv,lv,vs,S',e,h1,h2,h3,h4,h5,h6,h7⟩=>⟨hb0,kv,lv,vs,S',e,JO h1 hb,⟨JO h2.1 hb,h2.2⟩,h3,h4,h5,h6,zH.base hb h7⟩
theorem zH.base {w:World} {B B':Nat} (hb:B'≤B):∀{l:List Tr} {vs:List Value} {S:Nat→Prop},zH w B l vs S→zH w B' l vs S
 | [],_,_,h=>h
 | t::r,_,S,⟨v,vr,S1,S2,e,h1,h2,h3,h4,h5⟩=>⟨v,vr,S1,S2,e,h1,h2,h3,qA.base hb h4,zH.base hb h5⟩
end
/-! ### lists of strings -/
def qB (l:List ByteArray) (many j4:Nat):List ByteArray:=(l.take many).map (JT · j4)
theorem uO {l:List ByteArray} {k:Nat} (h:l[k]? = some s) {many:Nat} (hk:k < many) (j4:Nat):qB (l.take k) many j4++[JT s j4]=qB (l.take (k+1)) many j4:=by
 obtain⟨hl,hs⟩:=zi.1 h;unfold qB;rw[yh,yh,Nat.min_eq_right (by omega:k≤many),Nat.min_eq_right (by omega:k+1≤many),List.take_succ_eq_append_getElem hl,xb,hs];rfl
theorem BF (l:List ByteArray) (many j4:Nat):qB (l.take many) many j4=qB l many j4:=by simp[qB,yh]
theorem n7 (l:List ByteArray) (many j4:Nat):(qB l many j4).length=min many l.length:=by simp[qB]
theorem EJ (many j4:Nat) (v:Value) (l:List ByteArray) (w:World) (h:zB w v l) (hm:many≤1000) (hlg:j4≤1000) :
 Calls prog 114 #[v,.int .i64 many,.int .i64 j4] w λr w'=>∃v',r=.returned v'∧zG w' w.heap.size v' (qB l many j4)∧jC w w':=by
 obtain⟨ad,c,rfl,hlc,hcm,_,kM⟩:=h;have HC:=zh kM;have hl:l.length≤9223372036854775807:=by unfold kI at hcm;omega
 clear kM hcm;go_enter func114,ntmps114;go_wp2_with fail
 go_loopw [7,8] (λv i wr=>∃k:Nat,k≤l.length∧k≤many∧i=.int .i64 k∧Hid (zG wr w.heap.size v (qB (l.take k) many j4)∧jC w wr)) (λ_ i _=>l.length - (intOf i).toNat)
 case atStart=>exact⟨0,Nat.zero_le _,by omega,rfl,by
  show _∧_
  exact⟨by simpa [qB] using zG.nil _ _,jC.refl _⟩⟩
 case round=>
  obtain⟨k,hk,hk2,rfl,HW⟩:=hrel;by_cases hlt:k < l.length
  ·by_cases h3:k < many
   ·obtain⟨x,hx⟩:∃x,l[k]? = some x:=⟨_,za hlt⟩;have HSN:=zh (uO hx h3 j4);obtain⟨hz,b,off,rfl,c0⟩:=HC.out k x hx;have HZ:=zh hz;clear hx hz;have d0:=HW.2.cell c0;clear c0;have h3i:(k:Int) < many:=(by omega);go_wp2_with fail;refine (lO wr x j4 HZ.out hlg).mono ?_;rintro r w2 ⟨rfl,rfl⟩;have HO:=zh HW.1;have HG:=zh HW.2;obtain⟨va,vc,rfl,_,_,_⟩:=jR HO.out;have HLN:Hid ((qB (l.take k) many j4).length≤1000):=(by show _≤_;rw[n7];omega);have hzs:Hid (kI (JT x j4).size):=(by show kI _;have:=HZ.out;unfold kI at *;rw[Z2];omega);generalize qB (l.take k) many j4=L at *;generalize JT x j4=X at *;clear HW;have HO2:Hid (∀o,zG (wr.alloc o) w.heap.size (.slice va L.length vc) L):=λo=>HO.grew ((jC.refl _).alloc o);go_wp2_with (at_builtin;refine J6 rfl _ _ rfl w.heap.size (.slice va L.length vc) L rfl (HO2.out _) _ [X] rfl (lN _ _ hzs.out) (by have:=HLN.out;simp;omega) (zf HG.size zp2) ?_;intro v' w3 j5 hgr hqq;obtain⟨va2,vc2,rfl,_,_,_⟩:=jR j5;have HG3:=zh (qa j5 (uN (HO2.out _) (HG.alloc _) hgr));clear j5 hgr hqq);go_roundw
    case rel=>
     refine⟨k+1,by omega,by omega,by go_num,?_⟩;show _∧_;rw[← HSN.out];have hh:=HG3.out;rw[zb] at hh;exact hh
    case measure=>simp[intOf];omega
   have ek:k=many:=(by omega);subst ek;have hw:=HW.out
   have HE:Hid (zG wr w.heap.size u7 (qB l k j4)∧jC w wr):=by
    show _∧_;rw[BF] at hw;exact hw
   clear hw HW;go_wp2;go_ret;exact⟨_,rfl,HE.out⟩
  have ek:k=l.length:=by omega
  subst ek;have hw:=HW.out
  have HE:Hid (zG wr w.heap.size u7 (qB l many j4)∧jC w wr):=by
   show _∧_;rw[qn] at hw;exact hw
  clear hw HW;go_wp2
  all_goals
   go_ret;exact⟨_,rfl,HE.out⟩
mutual
def JH (j4:Nat):Nat→Tr→Tr × Nat
 | left,.mk k n u s keys l=>(.mk k n u (JT s j4) (qB keys 64 j4) (kJ j4 left l).1,(kJ j4 left l).2)
def kJ (j4:Nat):Nat→List Tr→List Tr × Nat
 | left,[]=>([],left)
 | left,t::r=>if left=0 then ([],0) else ((JH j4 (left - 1) t).1::(kJ j4 (JH j4 (left - 1) t).2 r).1,(kJ j4 (JH j4 (left - 1) t).2 r).2)
end
theorem gO (j4:Nat) (l:List Tr) (t:Tr):∀left,kJ j4 left (l++[t]) =
 if (kJ j4 left l).2=0 then kJ j4 left l else ((kJ j4 left l).1++[(JH j4 ((kJ j4 left l).2 - 1) t).1],(JH j4 ((kJ j4 left l).2 - 1) t).2):=by
 induction l with
 | nil=>intro left;by_cases h:left=0<;>simp[kJ,h]
 | cons x r ih=>
  intro left;rw[qz,kJ,kJ];by_cases h:left=0
  ·simp[h]
  rw[ze h,ze h,ih];by_cases h2:(kJ j4 (JH j4 (left - 1) x).2 r).2=0
  ·rw[zl h2,zl h2]
  rw[ze h2,ze h2];simp
theorem uP (j4:Nat) (l r:List Tr) (left:Nat) (h:(kJ j4 left l).2=0):kJ j4 left (l++r)=kJ j4 left l:=by
 induction r generalizing l with
 | nil=>simp
 | cons x r ih=>
  have e:l++x::r=(l++[x])++r:=by simp
  have h2:kJ j4 left (l++[x])=kJ j4 left l:=by rw[gO,zl h]
  rw[e,ih (l++[x]) (by rw[h2];exact h),h2]
mutual
theorem cK (j4:Nat):∀(t:Tr) (left:Nat),(JH j4 left t).1.size+(JH j4 left t).2≤left+1
 | .mk k n u s keys l,left=>by
  have:=aC j4 l left;simp only[JH,Tr.size];omega
theorem aC (j4:Nat):∀(l:List Tr) (left:Nat),zY (kJ j4 left l).1+(kJ j4 left l).2≤left
 | [],left=>by simp[kJ,zY]
 | t::r,left=>by
  rw[kJ];by_cases h:left=0
  ·simp[h,zY]
  rw[ze h];have h1:=cK j4 t (left - 1);have h2:=aC j4 r (JH j4 (left - 1) t).2;simp only[zY];omega
end
def J2 (R:Nat→Prop) (W w:World) (v:Value) (ts:List Tr):Prop:=
 ∃vs S,yM w W.heap.size v vs∧zH w W.heap.size ts vs S∧(∀g,S g→W.heap.size≤g∧g < w.heap.size∧v.ownBlock≠some g)∧Moved R W w
theorem J2.start (R:Nat→Prop) (W:World):J2 R W W (.slice none 0 0) []:=
 ⟨[],λ_=>False,yM.nil _ _,rfl,λ_ h=>h.elim,Moved.refl _ _⟩
theorem J2.form (h:J2 R W w v ts):∃a c,v=.slice a ts.length c∧ts.length≤c∧kI c∧(a=none→c=0):=by
 obtain⟨vs,S,h1,h2,_⟩:=h;have:=jR h1.1
 rwa [h2.length] at this
theorem J2.step {w2 w3:World} {v' xv:Value} (hR:∀g,R g→g < W.heap.size) (vs:List Value) (S:Nat→Prop) (h2:zH wr W.heap.size ts vs S) (h1:yM wr W.heap.size v vs)
 (h3:∀g,S g→W.heap.size≤g∧g < wr.heap.size∧v.ownBlock≠some g) (h4:Moved R W wr)
 (hx:qA w2 wr.heap.size x xv (JB wr w2)) (hm:Moved R wr w2) (o:Obj) (j5:yM w3 W.heap.size v' (vs++[xv])) (hgr:(w2.alloc o).grownBy w3 v.ownBlock) (hn:yX (w2.alloc o) v.ownBlock v'.ownBlock):J2 R W w3 v' (ts++[x]):=by
 have hm3:Moved (λk=>some k=v.ownBlock) (w2.alloc o) w3:=Moved.of_grown hgr;have hga:jC w2 (w2.alloc o):=(jC.refl w2).alloc o;have hlt:∀g,v.ownBlock=some g→W.heap.size≤g∧g < wr.heap.size:=λg hg=>qm h1.1 g hg;have hs2:wr.heap.size≤w2.heap.size:=hm.size;have hs3:w2.heap.size≤(w2.alloc o).heap.size:=hga.size;have hs4:(w2.alloc o).heap.size≤w3.heap.size:=hm3.size;have hWr:W.heap.size≤wr.heap.size:=h4.size;have k1:zH w3 W.heap.size ts vs S:=((h2.kept hm (λg hg hr=>by have:=(h3 g hg).1;have:=hR g hr;omega)).grew hga).kept hm3 (λg hg e=>(h3 g hg).2.2 e.symm);have k2:qA w3 W.heap.size x xv (JB wr w2):=((hx.grew hga).kept hm3 (λg hg e=>by have:=hlt g e.symm;have:=hg.1;omega)).base hWr;refine⟨vs++[xv],λg=>S g∨JB wr w2 g,j5,k1.app (zH.one k2) (λg hg hh=>by have:=(h3 g hg).2.1;have:=hh.1;omega),λg hg=>?_,?_⟩
 ·have hb:W.heap.size≤g∧g < w2.heap.size:=by
   rcases hg with hg|hg
   ·have:=h3 g hg;omega
   exact⟨zf hWr hg.1,hg.2⟩
  refine⟨hb.1,by omega,λe=>?_⟩;rcases hn g e with e|e
  ·rcases hg with hg|hg
   ·exact (h3 g hg).2.2 e
   have:=hlt g e;have:=hg.1;omega
  omega
 exact ((h4.trans' hm).grew hga).trans hm3 λj hj e=>by have:=hlt j e.symm;omega
theorem J2.tree {kv:Value} {k n u:Int} {keys:List ByteArray} (h:J2 R W w v ts) (hb:kY k∧kY n∧KG u∧kI s.size∧∀x∈keys,kI x.size)
 (h0:w0.heap.size≤W.heap.size) (hk:zG w w0.heap.size kv keys) (hkW:∀g,kv.ownBlock=some g→g < W.heap.size) :
 qA w w0.heap.size (.mk k n u s keys ts) (.agg #[.int .i64 k,.int .i64 n,.int .u64 u,.string s,kv,v]) (JB w0 w):=by
 obtain⟨vs,S,h1,h2,h3,h4⟩:=h;simp only[qA];refine⟨hb,kv,v,vs,S,rfl,hk,⟨JO h1.1 h0,h1.2⟩,λg hg=>⟨?_,λhs=>?_⟩,λg hg=>⟨?_,λhs=>(h3 g hs).2.2 hg⟩,λg hg hg2=>?_,λg hg=>?_,h2.base h0⟩
 ·have:=qm hk g hg;exact⟨this.1,this.2⟩
 ·have:=(h3 g hs).1;have:=hkW g hg;omega
 ·have:=qm h1.1 g hg;exact⟨by omega,this.2⟩
 ·have:=qm h1.1 g hg2;have:=hkW g hg;omega
 have:=h3 g hg;exact⟨by omega,this.2.1⟩
theorem J2.kept (h:J2 R W w v ts) (hm:Moved T w w') (hT:∀g,T g→g < W.heap.size) (hRT:∀g,T g→R g):J2 R W w' v ts:=by
 obtain⟨vs,S,h1,h2,h3,h4⟩:=h;refine⟨vs,S,⟨Moved.owns hm h1.1 (λg hg ht=>by have:=qm h1.1 g hg;have:=hT g ht;omega),h1.2⟩,h2.kept hm (λg hg ht=>by have:=(h3 g hg).1;have:=hT g ht;omega),λg hg=>?_,h4.trans hm (λg _ ht=>hRT g ht)⟩;have:=h3 g hg;have:=hm.size;exact⟨by omega,by omega,(h3 g hg).2.2⟩
theorem J2.wider (h:J2 R W w v ts) (hRT:∀g,R g→T g):J2 T W w v ts:=by
 obtain⟨vs,S,h1,h2,h3,h4⟩:=h;exact⟨vs,S,h1,h2,h3,h4.mono (λg _ hg=>hRT g hg)⟩
mutual
def Few:Tr→Prop | .mk _ _ _ _ keys l=>keys.length≤4096∧l.length≤4096∧sH l
def sH:List Tr→Prop | []=>True | t::r=>Few t∧sH r
end
theorem sH.mem {l:List Tr} (h:sH l) (hx:x∈l):Few x:=by
 induction l with
 | nil=>cases hx
 | cons t r ih=>
  simp only[sH] at h;rcases qp.1 hx with rfl|hx
  ·exact h.1
  exact ih h.2 hx
theorem Z3 {a b c d e f:Value} {t:TypeId} (h:w.heap[g]? = some (.cells #[a,b,c,d,e,f] t (0,0))) (a' b' c' d' e' f':Value) :
 ((((((w.setCell ⟨g,0,none⟩ a').setCell ⟨g,1,none⟩ b').setCell ⟨g,2,none⟩ c').setCell ⟨g,3,none⟩ d').setCell ⟨g,4,none⟩ e').setCell ⟨g,5,none⟩ f').heap[g]? = some (.cells #[a',b',c',d',e',f'] t (0,0)):=by
 have h1:=heap_setCell_same w g 0 _ _ a' h;have h2:=heap_setCell_same _ g 1 _ _ b' h1;have h3:=heap_setCell_same _ g 2 _ _ c' h2;have h4:=heap_setCell_same _ g 3 _ _ d' h3;have h5:=heap_setCell_same _ g 4 _ _ e' h4;have h6:=heap_setCell_same _ g 5 _ _ f' h5;simpa using h6
theorem yJ (w:World) (g:Nat) (a' b' c' d' e' f':Value) :
 Moved (λk=>k=g) w ((((((w.setCell ⟨g,0,none⟩ a').setCell ⟨g,1,none⟩ b').setCell ⟨g,2,none⟩ c').setCell ⟨g,3,none⟩ d').setCell ⟨g,4,none⟩ e').setCell ⟨g,5,none⟩ f'):=
 Moved.setCell (S:=λk=>k=g) (p:=⟨g,5,none⟩) (Moved.setCell (S:=λk=>k=g) (p:=⟨g,4,none⟩) (Moved.setCell (S:=λk=>k=g) (p:=⟨g,3,none⟩) (Moved.setCell (S:=λk=>k=g) (p:=⟨g,2,none⟩) (Moved.setCell (S:=λk=>k=g) (p:=⟨g,1,none⟩) (Moved.setCell (S:=λk=>k=g) (p:=⟨g,0,none⟩) (Moved.refl _ w) (λ_=>rfl) _) (λ_=>rfl) _) (λ_=>rfl) _) (λ_=>rfl) _) (λ_=>rfl) _) (λ_=>rfl) _
abbrev kW (w:World) (g:Nat) (a' b' c' d' e' f':Value):World:=((((((w.setCell ⟨g,0,none⟩ a').setCell ⟨g,1,none⟩ b').setCell ⟨g,2,none⟩ c').setCell ⟨g,3,none⟩ d').setCell ⟨g,4,none⟩ e').setCell ⟨g,5,none⟩ f')
theorem aD (w:World) (g r:Nat) (a b c d e f:Value) (x:Value):Moved (λk=>k=g∨k=r) w (kW (w.setCell ⟨g,5,none⟩ x) r a b c d e f):=
 (Moved.setCell (S:=λk=>k=g∨k=r) (p:=⟨g,5,none⟩) (Moved.refl _ w) (λ_=>.inl rfl) x).trans (yJ _ r a b c d e f) (λ_ _ h=>.inr h)
theorem Moved.fresh {S:Nat→Prop} (hg:jC w0 w) (h:Moved S w w') (hS:∀g,S g→w0.heap.size≤g):jC w0 w':=
 Below.trans hg (h.below hg.size hS)
theorem jM.node6 {t:Tr} (h:jM w t v):QV v:=by
 cases t;simp only[jM] at h;obtain⟨_,kv,lv,vs,rfl,⟨a4,c4,rfl,_⟩,⟨a5,c5,rfl,_⟩,_⟩:=h;exact⟨_,_,_,_,_,_,_,_,_,_,rfl⟩
theorem yO.get {o:Nat} {x0 x1 x2 x3 x4 x5:Value} (h:yO w b o (.agg #[x0,x1,x2,x3,x4,x5])) :
 w.cell? ⟨b,o,none⟩=some x0∧w.cell? ⟨b,o+1,none⟩=some x1∧w.cell? ⟨b,o+2,none⟩=some x2∧w.cell? ⟨b,o+3,none⟩=some x3∧w.cell? ⟨b,o+4,none⟩=some x4∧w.cell? ⟨b,o+5,none⟩=some x5:=by
 obtain⟨c0,c1,c2,c3,c4,c5,e,h⟩:=h;injection e with e;injection e with e;simp at e;obtain⟨rfl,rfl,rfl,rfl,rfl,rfl⟩:=e;exact h
theorem KU {e t:TypeId} (h:w.ownsRow B e size v n xs) (hg:w.heap[g]? = some (.cells cs t (0,0))) (he:e≠t):v.ownBlock≠some g:=by
 intro hv;rcases h.2 with ⟨rfl,_⟩|⟨g2,cap,cur,rfl,_,h2,_⟩
 ·cases hv
 have:g2=g:=by injection hv
 subst this;rw[hg] at h2;injection h2 with h2;injection h2 with _ h2;exact he h2.symm
theorem sI:∀(m:Nat) (t:Tr),t.size≤m→∀(v:Value) (w:World),jM w t v→Few t →
 Calls prog 32 #[v] w λr w'=>∃v',r=.returned v'∧qA w' w.heap.size t v' (JB w w')∧jC w w':=by
 intro m
 induction m with
 | zero=>intro t ht;have:=t.size_pos;omega
 | succ m ih=>
 intro t ht v w hn hf;obtain⟨k,n,u,s,keys,l⟩:=t;simp only[jM] at hn;obtain⟨hb,kv,lv,vs,rfl,hks,yU,zN⟩:=hn;simp only[Few] at hf;obtain⟨hf1,hf2,hf3⟩:=hf;have hkl:vs.length=l.length:=zN.length;have HKS:=zh hks;have HK:=zh zN;have HF3:=zh hf3;have HB:=zh hb;obtain⟨a4,c4,rfl,hx1,hx2,hx3,hx4⟩:=hks;clear hx1 hx2 hx3 hx4;have kU:=zh yU;obtain⟨a5,c5,rfl,hx1,hc5,hx3,hx4⟩:=yU;clear hx1 hx3 hx4;rw[hkl] at kU⊢
 have hkz:Hid (∀x∈keys,kI x.size):=λx hx=>by
  obtain⟨_,_,_,_,_,_,h⟩:=HKS.out;obtain⟨i,hi,rfl⟩:=List.mem_iff_getElem.1 hx;exact (h i _ (za hi)).1
 have hsz:∀x∈l,x.size≤m:=λx hx=>by have:=JC hx;simp only[Tr.size] at ht;omega
 have HSZ:=zh hsz;clear zN hf3 hb hsz ht hkl hc5;go_enter func32,ntmps32;go_wp2_with fail;obtain⟨hb1,hg1⟩:=sqal w (.cells #[.int .i64 k,.int .i64 n,.int .u64 u,.string s,.slice a4 keys.length c4,.slice a5 l.length c5] 26);have hs1:(w.alloc (.cells #[.int .i64 k,.int .i64 n,.int .u64 u,.string s,.slice a4 keys.length c4,.slice a5 l.length c5] 26)).heap.size=w.heap.size+1:=zm _ _;generalize w.alloc _=w1 at *;obtain⟨hb2,hg2⟩:=sqal w1 (.cells #[.int .i64 0,.int .i64 0,.int .u64 0,.string ⟨#[]⟩,.slice none 0 0,.slice none 0 0] 26);have hs2:(w1.alloc (.cells #[.int .i64 0,.int .i64 0,.int .u64 0,.string ⟨#[]⟩,.slice none 0 0,.slice none 0 0] 26)).heap.size=w1.heap.size+1:=zm _ _;rw[hs1] at hb2 hs2;skip;generalize w1.alloc _=w2 at *;replace hb1:=hg2.heap hb1;have hG:=hg1.trans hg2;have hs2':w2.heap.size=w.heap.size+2:=by omega
 obtain⟨N,hN⟩:∃N,w.heap.size=N:=⟨_,rfl⟩;rw[hN] at hb1 hb2 hs2'⊢;have hB2:Hid (N+2≤w2.heap.size):=by show _≤_;omega
 obtain⟨c0,c1,c2,c3⟩:=sqr4 hb1;have c4':=jA hb1 4 _ rfl;have HB1:=zh hb1;have HB2:=zh hb2;have HG:=zh hG;have HS2:=zh hs2';have HN:=zh hN;clear hb1 hb2 hG hs1 hs2 hs2' hg1 hg2 hN;refine vG jC [[],[0],[],[2],[],[4],[],[6],[],[8],[9],[1,3,5,7,10],[],[11,12]] [[(8,2),(9,3),(10,4),(11,5),(12,6),(13,7),(14,8),(15,9),(16,10),(17,11),(3,12)],[(6,0),(8,2),(9,3),(10,4),(11,5),(12,6),(13,7),(14,8),(15,9),(16,10),(3,12)],[(6,0),(7,1),(10,4),(11,5),(12,6),(13,7),(14,8),(15,9),(16,10),(17,11),(3,12)],[(6,0),(7,1),(8,2),(10,4),(11,5),(12,6),(13,7),(14,8),(15,9),(16,10),(3,12)],[(6,0),(7,1),(8,2),(9,3),(12,6),(13,7),(14,8),(15,9),(16,10),(17,11),(3,12)],[(6,0),(7,1),(8,2),(9,3),(10,4),(12,6),(13,7),(14,8),(15,9),(16,10),(3,12)],[(6,0),(7,1),(8,2),(9,3),(10,4),(11,5),(14,8),(15,9),(16,10),(17,11),(3,12)],[(6,0),(7,1),(8,2),(9,3),(10,4),(11,5),(12,6),(14,8),(15,9),(16,10),(3,12)],[(6,0),(7,1),(8,2),(9,3),(10,4),(11,5),(12,6),(13,7),(16,10),(17,11),(3,12)],[(6,0),(7,1),(8,2),(9,3),(10,4),(11,5),(12,6),(13,7),(14,8),(17,11),(3,12)],[(6,0),(7,1),(8,2),(9,3),(10,4),(11,5),(12,6),(13,7),(14,8),(15,9),(3,12)],[(6,0),(7,1),(8,2),(9,3),(10,4),(11,5),(12,6),(13,7),(14,8),(15,9),(16,10),(3,12)],[(6,0),(7,1),(8,2),(9,3),(10,4),(11,5),(12,6),(13,7),(14,8),(15,9),(16,10),(17,11)],[(6,0),(7,1),(8,2),(9,3),(10,4),(11,5),(12,6),(13,7),(14,8),(15,9),(16,10),(17,11),(3,12)]]
  [Is (.pointer (some ⟨N,0,none⟩)),Is (.int .i64 k),Is (.pointer (some ⟨N,1,none⟩)),Is (.int .i64 n),Is (.pointer (some ⟨N,2,none⟩)),Is (.int .u64 u),Is (.pointer (some ⟨N,3,none⟩)),Is (.string s),Is (.pointer (some ⟨N,4,none⟩)),Is (.slice a4 keys.length c4),λv w=>zG w (N+2) v keys,λv w=>∃kv',v=.agg #[.int .i64 k,.int .i64 n,.int .u64 u,.string s,kv',.slice none 0 0]∧zG w (N+2) kv' keys,λv w=>∃g,v=.pointer (some ⟨g,0,none⟩)∧(N+2)≤g∧w.heap[g]? = some (.cells #[.int .i64 0,.int .i64 0,.int .u64 0,.string ⟨#[]⟩,.slice none 0 0,.slice none 0 0] 26)]
  zk jC.trans jC.refl (jC.refl _).drew zk ⟨jJ,jJ,jJ,jJ,jJ,jJ,jJ,jJ,jJ,jJ,λ_ _ _ hg h=>zG.grew h hg,λ_ _ _ hg h=>h.elim λq h=>⟨q,h.1,zG.grew h.2 hg⟩,λ_ _ _ hg h=>h.elim λq h=>⟨q,h.1,h.2.1,hg.heap h.2.2⟩,trivial⟩ rfl ⟨?_,?_,?_,?_,?_,?_,?_,?_,?_,?_,?_,?_,?_,trivial⟩ ?_ rfl
 ·exact VW
 ·exact oM
 ·exact VW
 ·exact oM
 ·exact VW
 ·exact oM
 ·exact VW
 ·exact oM
 ·exact VW
 ·exact oM
 ·exact zb20
 ·exact zb21
 ·exact zb22
 intro y w2' hG hF K hK;simp only[zV,Is,and_true,Nat.reduceAdd] at hF;have h10:=hF.2.2.2.2.2.2.2.2.2.2.1;have h11:=hF.2.2.2.2.2.2.2.2.2.2.2.1;have h12:=hF.2.2.2.2.2.2.2.2.2.2.2.2;simp only[JS];simp only[jF,Act.put,zq,Is] at hK⊢;simp only[hF];clear hF;refine jN ?_;refine Exists.elim h11 λkv' h=>?_;have hs11:=h.1;have hkv:=h.2;refine Exists.elim (jR hkv) λva h=>Exists.elim h λvc h=>?_;have hs:=h.1;rw[hs] at hkv hs11;clear h h11 hs h10;refine Exists.elim h12 λg h=>?_;have hs12:=h.1;have hgB:=h.2.1;have jK:=h.2.2;clear h h12;rw[hs11,hs12];clear hs11 hs12;have f0:=jE jK 0;have f1:=jE jK 1;have f2:=jE jK 2;have f3:=jE jK 3;have f4:=jE jK 4;have f5:=jE jK 5;obtain⟨d0,d1,d2,d3,d4,d5⟩:=sqr6 jK;have hrow2:=Z3 jK (.int .i64 k) (.int .i64 n) (.int .u64 u) (.string s) (.slice va keys.length vc) (.slice none 0 0);have hmv:=yJ w2' g (.int .i64 k) (.int .i64 n) (.int .u64 u) (.string s) (.slice va keys.length vc) (.slice none 0 0);have hkv2:zG _ (N+2) (.slice va keys.length vc) keys:=Moved.owns hmv hkv (λq hq e=>KU hkv jK zd (by rw[hq,e]));have hgr:=Moved.fresh hG hmv (λq e=>by have:=HS2.out;omega);clear hG jK hmv hkv;go_simp;refine hK _ _ ?_;clear f0 f1 f2 f3 f4 f5 d0 d1 d2 d3 d4 d5 hK;generalize ((((((w2'.setCell ⟨g,0,none⟩ (.int .i64 k)).setCell ⟨g,1,none⟩ (.int .i64 n)).setCell ⟨g,2,none⟩ (.int .u64 u)).setCell ⟨g,3,none⟩ (.string s)).setCell ⟨g,4,none⟩ (.slice va keys.length vc)).setCell ⟨g,5,none⟩ (.slice none 0 0))=w3 at *;have KP:=zh hrow2;have HKV:=zh hkv2;have HB1':=zh (hgr.heap HB1.out);have HB2':=zh (hgr.heap HB2.out);have HG3:=zh (HG.trans hgr);clear hrow2 hkv2 HB1 HB2 HG c0 c1 c2 c3 c4';have hgN:Hid (N+2≤g):=hgB;clear hgB;generalize y 10=y10;go_wp2_with fail
 go_loopw [4,5] (λv i wr=>∃kk:Nat,kk≤l.length∧i=.int .i64 kk∧Hid (J2 (λ_=>False) w3 wr v (l.take kk))) (λ_ i _=>l.length - (intOf i).toNat)
 case atStart=>exact⟨0,Nat.zero_le _,rfl,by show J2 _ _ _ _ _;exact J2.start _ _⟩
 case round=>
  obtain⟨kk,hkk,rfl,HW⟩:=hrel;have hgw:jC w3 wr:=by obtain⟨_,_,_,_,_,hm⟩:=HW.out;exact Moved.fresh (jC.refl _) hm (λg h=>h.elim)
  have HGW:=zh hgw;have b5:=jA (hgw.heap HB1'.out) 5 _ rfl;clear hgw;by_cases hlt:kk < l.length
  ·obtain⟨x,hx⟩:∃x,l[kk]? = some x:=⟨_,za hlt⟩;obtain⟨xv,hxv,hnx⟩:=HK.get hx;have hxm:x∈l:=qd hx;have HX:=zh (show l.take kk++[x]=l.take (kk+1) by rw[qo,hx];rfl);have HFX:=zh (HF3.mem hxm);have hxs:=HSZ.out x hxm;have hcall:Hid (∀w',jC w w'→jM w' x xv):=λw' hg=>hnx.grew hg
   obtain⟨b,off,rfl,hc6⟩:∃b off,a5=some ⟨b,off,none⟩∧yO wr b (off+kk*6) xv:=by
    obtain⟨a,c,e,_,_,_,h⟩:=kU.out;injection e with e1 e2 e3;subst e1;obtain⟨b,off,e,h6⟩:=h kk xv hxv;exact⟨b,off,e,h6.grew (HG3.trans HGW.out)⟩
   obtain⟨xk,xn,xu,xs,xa4,xn4,xc4,xa5,xn5,xc5,rfl⟩:=hnx.node6;obtain⟨e0,e1,e2,e3,e4,e5⟩:=hc6.get;clear hc6 hx hxv hnx hxm;have hlti:(kk:Int) < l.length:=(by omega);go_wp2_with fail;refine (ih x hxs _ wr (hcall.out wr (HG3.trans HGW.out)) HFX.out).mono ?_;rintro r w4 ⟨xv,rfl,hox,hg4⟩;obtain⟨yk,yn,yu,ys,ya4,yn4,yc4,ya5,yn5,yc5,rfl⟩:=hox.node6;have HOX:=zh hox;have HG4:=zh hg4;obtain⟨vs4,S4,q1,q2,q3,q4⟩:=HW.out;obtain⟨ga,gc,rfl,hz1,hz2,hz3⟩:=HW.form;have HV4:Hid (vs4.length≤4096):=(by show _≤_;rw[q2.length,qr];omega);have HQ1:=zh q1;have HQ2:=zh q2;have HQ3:=zh q3;have HQ4:=zh q4;have HON:Hid (∀o,yM (w4.alloc o) w3.heap.size (.slice ga (l.take kk).length gc) vs4):=λo=>(q1.grew hg4).grew ((jC.refl _).alloc o);have HSZ4:Hid (∀o,w3.heap.size≤(w4.alloc o).heap.size):=λo=>zf (zf HGW.size hg4.size) ((jC.refl w4).alloc o).size;clear q1 q2 q3 q4 hz1 hz2 hz3 hox hg4 HW e0 e1 e2 e3 e4 e5 b5;generalize l.take kk=L at *;go_wp2_with (at_builtin;refine vH rfl _ _ rfl w3.heap.size _ vs4 rfl (HON.out _) _ _ (.agg #[.int .i64 yk,.int .i64 yn,.int .u64 yu,.string ys,.slice ya4 yn4 yc4,.slice ya5 yn5 yc5]) rfl (qc _ _) ⟨_,_,_,_,_,_,_,_,_,_,rfl⟩ zp30 (HSZ4.out _) ?_;intro v' w5 j5 hgr hnx;obtain⟨va2,vc2,rfl,hz1,hz2,hz3⟩:=jR j5.1;have HG5:=zh (J2.step (R:=λ_=>False) (λg h=>h.elim) vs4 S4 HQ2.out HQ1.out HQ3.out HQ4.out HOX.out (Moved.of_grew HG4.out) _ j5 hgr hnx);clear j5 hgr hnx hz1 hz2 hz3);go_roundw
   case rel=>
    refine⟨kk+1,by omega,by go_num,?_⟩;show J2 _ _ _ _ _;rw[← HX.out];have hh:=HG5.out;rw[zb] at hh;exact hh
   case measure=>simp[intOf];omega
  have ek:kk=l.length:=(by omega);subst ek;have hw:=HW.out;rw[qn] at hw;have HE:=zh hw;have hgw:=HGW.out;have jK:=hgw.heap KP.out;have j7:=hgw.heap HB2'.out;have HROWW:=zh jK;have HRESW:=zh j7;have f5:=jE jK 5;have r0:=jE j7 0;have r1:=jE j7 1;have r2:=jE j7 2;have r3:=jE j7 3;have r4:=jE j7 4;have r5:=jE j7 5;obtain⟨d0,d1,d2,d3,d4,d5⟩:=sqr6 jK;obtain⟨z0,z1,z2,z3,z4,z5⟩:=sqr6 j7;have hne:¬g=N+1:=(by have:=hgN.out;omega);have hne2:¬N+1=g:=(by have:=hgN.out;omega);obtain⟨ga,gc,rfl,hz1,hz2,hz3⟩:=HE.form;clear hw HW hgw jK j7 hz1 hz2 hz3;have hT:=aD wr g (N+1) (.int .i64 k) (.int .i64 n) (.int .u64 u) (.string s) (.slice va keys.length vc) (.slice ga l.length gc) (.slice ga l.length gc);have hTW:jC w (kW (wr.setCell ⟨g,5,none⟩ (.slice ga l.length gc)) (N+1) (.int .i64 k) (.int .i64 n) (.int .u64 u) (.string s) (.slice va keys.length vc) (.slice ga l.length gc)):=Moved.fresh (HG3.trans HGW.out) hT (λq hq=>by have h1:=HN.out;have h2:=hgN.out;rcases hq with rfl | rfl<;>omega);have hkvW:zG wr (N+2) (.slice va keys.length vc) keys:=HKV.grew HGW.out
  have hfin:qA (kW (wr.setCell ⟨g,5,none⟩ (.slice ga l.length gc)) (N+1) (.int .i64 k) (.int .i64 n) (.int .u64 u) (.string s) (.slice va keys.length vc) (.slice ga l.length gc)) w.heap.size (.mk k n u s keys l) (.agg #[.int .i64 k,.int .i64 n,.int .u64 u,.string s,.slice va keys.length vc,.slice ga l.length gc]) (JB w (kW (wr.setCell ⟨g,5,none⟩ (.slice ga l.length gc)) (N+1) (.int .i64 k) (.int .i64 n) (.int .u64 u) (.string s) (.slice va keys.length vc) (.slice ga l.length gc))):=by
   have h1:=HN.out;have h2:=hgN.out;have h3:g < w3.heap.size:=(zc.1 KP.out).1;have h4:N+1 < w3.heap.size:=(zc.1 HB2'.out).1;refine J2.tree (((HE.wider (λ_ h=>h.elim)).kept hT (λq hq=>?_) (λ_ h=>h))) ⟨HB.1,HB.2.1,HB.2.2.1,HB.2.2.2,hkz.out⟩ HG3.size ?_ (λq hq=>(qm HKV.out q hq).2)
   ·rcases hq with rfl|rfl<;>omega
   exact zb23
  have HFIN:=zh (qa hfin hTW);clear hT hTW hfin hkvW;go_wp2;refine bodyPost_ret (v:=.agg #[.int .i64 k,.int .i64 n,.int .u64 u,.string s,.slice va keys.length vc,.slice ga l.length gc]) (by simp[results,results32,go_sem,z0,z1,z2,z3,z4,z5,hne,hne2]) rfl ?_;exact⟨_,rfl,HFIN.1,HFIN.2⟩
def gP (left j4:Nat):Obj:=.cells #[.int .i64 left,.int .i64 j4] 82 (0,0)
theorem EK {rb left j4:Nat} (h:w.heap[rb]? = some (gP left j4)) (p:Nat):(w.setCell ⟨rb,0,none⟩ (.int .i64 p)).heap[rb]? = some (gP p j4):=by
 have:=heap_setCell_same w rb 0 _ _ (.int .i64 p) h;simpa [gP] using this
theorem BG (j4 left:Nat) (l:List Tr) (k:Nat) (h:k=l.length∨(kJ j4 left (l.take k)).2=0):kJ j4 left (l.take k)=kJ j4 left l:=by
 rcases h with rfl|h
 ·rw[qn]
 have:=uP j4 (l.take k) (l.drop k) left h;rw[List.take_append_drop] at this;exact this.symm
theorem uQ (j4 left:Nat) (l:List Tr) (k p:Nat) (x:Tr) (hx:l[k]? = some x) (h:(kJ j4 left (l.take k)).2=p+1) :
 kJ j4 left (l.take (k+1))=((kJ j4 left (l.take k)).1++[(JH j4 p x).1],(JH j4 p x).2):=by
 rw[qo,hx];show kJ j4 left (l.take k++[x])=_;rw[gO,ze zo,h];rfl
theorem sJ {l:List ByteArray} (h:∀s∈l,kI s.size) (many j4:Nat):∀s∈qB l many j4,kI s.size:=by
 intro s hs;obtain⟨y,hy,rfl⟩:=qh.1 hs;have:=h y (List.mem_of_mem_take hy);unfold kI at *;rw[Z2];omega
theorem sK (h:kI s.size) (j4:Nat):kI (JT s j4).size:=by unfold kI at *;rw[Z2];omega
theorem uR (j4:Nat) (hlong:j4≤1000) (W:World) (rb:Nat) (hWrb:W.heap.size≤rb):∀(m:Nat) (t:Tr),t.size≤m→∀(v:Value) (w:World) (left:Nat),left≤4096→jM W t v→jC W w→w.heap[rb]? = some (gP left j4) →
 Calls prog 52 #[jI rb,v] w λr w'=>∃v',r=.returned v'∧qA w' w.heap.size (JH j4 left t).1 v' (JB w w')∧Moved (λg=>g=rb) w w'∧w'.heap[rb]? = some (gP (JH j4 left t).2 j4):=by
 intro m
 induction m with
 | zero=>intro t ht;have:=t.size_pos;omega
 | succ m ih=>
 intro t ht v w left hleft hn hW hrb;obtain⟨k,n,u,s,keys,l⟩:=t;simp only[jM] at hn;obtain⟨hb,kv,lv,vs,rfl,hks,yU,zN⟩:=hn;have hkl:vs.length=l.length:=zN.length;have HKS:=zh hks;have HK:=zh zN;have HB:=zh hb;obtain⟨a4,c4,rfl,hx1,hx2,hx3,hx4⟩:=hks;clear hx1 hx2 hx3 hx4;have kU:=zh yU;obtain⟨a5,c5,rfl,hll,hc5,hx3,hx4⟩:=yU;rw[hkl] at kU hll⊢;have kE:l.length≤9223372036854775807:=by unfold kI at hc5;omega
 clear hx3 hx4 hll
 have hkz:Hid (∀x∈keys,kI x.size):=λx hx=>by
  obtain⟨_,_,_,_,_,_,h⟩:=HKS.out;obtain⟨i,hi,rfl⟩:=List.mem_iff_getElem.1 hx;exact (h i _ (za hi)).1
 have hsz:∀x∈l,x.size≤m:=λx hx=>by have:=JC hx;simp only[Tr.size] at ht;omega
 have HSZ:=zh hsz;have HW0:=zh hW;clear zN hb hsz ht hkl hc5 hW;go_enter func52,ntmps52;go_wp2_with fail;obtain⟨hb1,hg1⟩:=sqal w (.cells #[.int .i64 k,.int .i64 n,.int .u64 u,.string s,.slice a4 keys.length c4,.slice a5 l.length c5] 26);have hs1:(w.alloc (.cells #[.int .i64 k,.int .i64 n,.int .u64 u,.string s,.slice a4 keys.length c4,.slice a5 l.length c5] 26)).heap.size=w.heap.size+1:=zm _ _;generalize w.alloc _=w1 at *;obtain⟨hb2,hg2⟩:=sqal w1 (.cells #[.int .i64 0,.int .i64 0,.int .u64 0,.string ⟨#[]⟩,.slice none 0 0,.slice none 0 0] 26);have hs2:(w1.alloc (.cells #[.int .i64 0,.int .i64 0,.int .u64 0,.string ⟨#[]⟩,.slice none 0 0,.slice none 0 0] 26)).heap.size=w1.heap.size+1:=zm _ _;rw[hs1] at hb2 hs2;generalize w1.alloc _=w2 at *;replace hb1:=hg2.heap hb1;have hG:=hg1.trans hg2;have hs2':w2.heap.size=w.heap.size+2:=by omega
 obtain⟨N,hN⟩:∃N,w.heap.size=N:=⟨_,rfl⟩;have hrbN:Hid (rb < N):=by show _ < _;rw[← hN];exact (zc.1 hrb).1
 replace hrb:=hG.heap hrb;rw[hN] at hb1 hb2 hs2'⊢;have hB2:Hid (N+2≤w2.heap.size):=by show _≤_;omega
 obtain⟨c0,c1,c2,c3⟩:=sqr4 hb1;have c4':=jA hb1 4 _ rfl;have r1:=jA hrb 1 _ rfl;have HB1:=zh hb1;have HB2:=zh hb2;have HRB:=zh hrb;have HG:=zh hG;have HS2:=zh hs2';have HN:=zh hN;have hsl:Hid (kI s.size):=HB.2.2.2;clear hb1 hb2 hG hs1 hs2 hs2' hg1 hg2 hN hrb;refine vG jC [[],[0],[],[2],[],[4],[],[6],[],[8],[9],[10],[7,11],[],[13],[],[15],[16],[17],[14,18],[1,3,5,12,19],[],[20,21]] [[(10,2),(11,3),(12,4),(13,5),(14,6),(15,7),(16,8),(17,9),(18,10),(19,11),(20,12),(21,13),(22,14),(23,15),(24,16),(25,17),(26,18),(27,19),(28,20),(5,21)],[(8,0),(10,2),(11,3),(12,4),(13,5),(14,6),(15,7),(16,8),(17,9),(18,10),(19,11),(20,12),(21,13),(22,14),(23,15),(24,16),(25,17),(26,18),(27,19),(5,21)],[(8,0),(9,1),(12,4),(13,5),(14,6),(15,7),(16,8),(17,9),(18,10),(19,11),(20,12),(21,13),(22,14),(23,15),(24,16),(25,17),(26,18),(27,19),(28,20),(5,21)],[(8,0),(9,1),(10,2),(12,4),(13,5),(14,6),(15,7),(16,8),(17,9),(18,10),(19,11),(20,12),(21,13),(22,14),(23,15),(24,16),(25,17),(26,18),(27,19),(5,21)],[(8,0),(9,1),(10,2),(11,3),(14,6),(15,7),(16,8),(17,9),(18,10),(19,11),(20,12),(21,13),(22,14),(23,15),(24,16),(25,17),(26,18),(27,19),(28,20),(5,21)],[(8,0),(9,1),(10,2),(11,3),(12,4),(14,6),(15,7),(16,8),(17,9),(18,10),(19,11),(20,12),(21,13),(22,14),(23,15),(24,16),(25,17),(26,18),(27,19),(5,21)],[(8,0),(9,1),(10,2),(11,3),(12,4),(13,5),(16,8),(17,9),(18,10),(19,11),(20,12),(21,13),(22,14),(23,15),(24,16),(25,17),(26,18),(27,19),(28,20),(5,21)],[(8,0),(9,1),(10,2),(11,3),(12,4),(13,5),(14,6),(16,8),(17,9),(18,10),(19,11),(21,13),(22,14),(23,15),(24,16),(25,17),(26,18),(27,19),(28,20),(5,21)],[(8,0),(9,1),(10,2),(11,3),(12,4),(13,5),(14,6),(15,7),(18,10),(19,11),(20,12),(21,13),(22,14),(23,15),(24,16),(25,17),(26,18),(27,19),(28,20),(5,21)],[(8,0),(9,1),(10,2),(11,3),(12,4),(13,5),(14,6),(15,7),(16,8),(19,11),(20,12),(21,13),(22,14),(23,15),(24,16),(25,17),(26,18),(27,19),(28,20),(5,21)],[(8,0),(9,1),(10,2),(11,3),(12,4),(13,5),(14,6),(15,7),(16,8),(17,9),(20,12),(21,13),(22,14),(23,15),(24,16),(25,17),(26,18),(27,19),(28,20),(5,21)],[(8,0),(9,1),(10,2),(11,3),(12,4),(13,5),(14,6),(15,7),(16,8),(17,9),(18,10),(21,13),(22,14),(23,15),(24,16),(25,17),(26,18),(27,19),(28,20),(5,21)],[(8,0),(9,1),(10,2),(11,3),(12,4),(13,5),(14,6),(15,7),(16,8),(17,9),(18,10),(19,11),(21,13),(22,14),(23,15),(24,16),(25,17),(26,18),(27,19),(5,21)],[(8,0),(9,1),(10,2),(11,3),(12,4),(13,5),(14,6),(15,7),(16,8),(17,9),(18,10),(19,11),(20,12),(23,15),(24,16),(25,17),(26,18),(27,19),(28,20),(5,21)],[(8,0),(9,1),(10,2),(11,3),(12,4),(13,5),(14,6),(15,7),(16,8),(17,9),(18,10),(19,11),(20,12),(21,13),(23,15),(24,16),(25,17),(26,18),(28,20),(5,21)],[(8,0),(9,1),(10,2),(11,3),(12,4),(13,5),(14,6),(15,7),(16,8),(17,9),(18,10),(19,11),(20,12),(21,13),(22,14),(25,17),(26,18),(27,19),(28,20),(5,21)],[(8,0),(9,1),(10,2),(11,3),(12,4),(13,5),(14,6),(15,7),(16,8),(17,9),(18,10),(19,11),(20,12),(21,13),(22,14),(23,15),(26,18),(27,19),(28,20),(5,21)],[(8,0),(9,1),(10,2),(11,3),(12,4),(13,5),(14,6),(15,7),(16,8),(17,9),(18,10),(19,11),(20,12),(21,13),(22,14),(23,15),(24,16),(27,19),(28,20),(5,21)],[(8,0),(9,1),(10,2),(11,3),(12,4),(13,5),(14,6),(15,7),(16,8),(17,9),(18,10),(19,11),(20,12),(21,13),(22,14),(23,15),(24,16),(25,17),(28,20),(5,21)],[(8,0),(9,1),(10,2),(11,3),(12,4),(13,5),(14,6),(15,7),(16,8),(17,9),(18,10),(19,11),(20,12),(21,13),(22,14),(23,15),(24,16),(25,17),(26,18),(5,21)],[(8,0),(9,1),(10,2),(11,3),(12,4),(13,5),(14,6),(15,7),(16,8),(17,9),(18,10),(19,11),(20,12),(21,13),(22,14),(23,15),(24,16),(25,17),(26,18),(27,19),(5,21)],[(8,0),(9,1),(10,2),(11,3),(12,4),(13,5),(14,6),(15,7),(16,8),(17,9),(18,10),(19,11),(20,12),(21,13),(22,14),(23,15),(24,16),(25,17),(26,18),(27,19),(28,20)],[(8,0),(9,1),(10,2),(11,3),(12,4),(13,5),(14,6),(15,7),(16,8),(17,9),(18,10),(19,11),(20,12),(21,13),(22,14),(23,15),(24,16),(25,17),(26,18),(27,19),(28,20),(5,21)]]
  [Is (.pointer (some ⟨N,0,none⟩)),Is (.int .i64 k),Is (.pointer (some ⟨N,1,none⟩)),Is (.int .i64 n),Is (.pointer (some ⟨N,2,none⟩)),Is (.int .u64 u),Is (.pointer (some ⟨N,3,none⟩)),Is (.string s),Is (jI rb),Is (jI rb),Is (.pointer (some ⟨rb,1,none⟩)),Is (.int .i64 j4),Is (.string (JT s j4)),Is (.pointer (some ⟨N,4,none⟩)),Is (.slice a4 keys.length c4),Is (jI rb),Is (jI rb),Is (.pointer (some ⟨rb,1,none⟩)),Is (.int .i64 j4),λv w=>zG w (N+2) v (qB keys 64 j4),λv w=>∃kv',v=.agg #[.int .i64 k,.int .i64 n,.int .u64 u,.string (JT s j4),kv',.slice none 0 0]∧zG w (N+2) kv' (qB keys 64 j4),λv w=>∃g,v=.pointer (some ⟨g,0,none⟩)∧(N+2)≤g∧w.heap[g]? = some (rowN zC)]
  zk jC.trans jC.refl (jC.refl _).drew zk ⟨jJ,jJ,jJ,jJ,jJ,jJ,jJ,jJ,jJ,jJ,jJ,jJ,jJ,jJ,jJ,jJ,jJ,jJ,jJ,λ_ _ _ hg h=>zG.grew h hg,λ_ _ _ hg h=>h.elim λq h=>⟨q,h.1,zG.grew h.2 hg⟩,λ_ _ _ hg h=>h.elim λq h=>⟨q,h.1,h.2.1,hg.heap h.2.2⟩,trivial⟩ rfl ⟨?_,?_,?_,?_,?_,?_,?_,?_,?_,?_,?_,?_,?_,?_,?_,?_,?_,?_,?_,?_,?_,?_,trivial⟩ ?_ rfl
 ·exact VW
 ·exact zb24
 ·exact VW
 ·exact zb24
 ·exact VW
 ·exact zb24
 ·exact VW
 ·exact zb24
 ·exact VW
 ·exact zb25
 ·exact zb25
 ·exact zb24
 ·intro y w2' hG hD K hK;simp only[kC,zq4,zq5,Is,and_true] at hD;simp only[jF,Act.put,zq,Is] at hK⊢;simp only[hD] at hK⊢;clear hD;refine jN ?_;go_simp;refine (lO _ s j4 hsl.out hlong).mono ?_;rintro r w3 ⟨rfl,rfl⟩;exact hK _ _ _ rfl (jC.refl _) rfl
 ·exact VW
 ·exact zb24
 ·exact VW
 ·exact zb25
 ·exact zb25
 ·exact zb24
 ·intro y w2' hG hD K hK;simp only[kC,zq4,zq5,Is,and_true] at hD;simp only[jF,Act.put,zq,Is] at hK⊢;simp only[hD] at hK⊢;clear hD;refine jN ?_;go_simp;refine (EJ 64 j4 _ _ _ (HKS.grew (HW0.trans (HG.trans hG))) zo hlong).mono ?_;rintro r w3 ⟨v',rfl,hv,hg⟩;exact hK _ _ _ rfl hg (JO hv (zf hB2.out hG.size))
 ·intro y w2' hG hD K hK;simp only[kC,zq4,zq5,Is,and_true] at hD;have h19:=hD.2.2.2.2;simp only[jF,Act.put,zq,Is] at hK⊢;simp only[hD] at hK⊢;clear hD;refine jN ?_;refine Exists.elim (jR h19) λva h=>Exists.elim h λvc h=>?_;have hs:=h.1;clear h;rw[hs] at hK h19⊢;go_simp;exact hK _ _ _ rfl (jC.refl _) ⟨_,rfl,h19⟩
 ·exact zb22
 intro y w2' hG hF K hK;simp only[zV,Is,and_true,Nat.reduceAdd] at hF;have h19:=hF.2.2.2.2.2.2.2.2.2.2.2.2.2.2.2.2.2.2.2.1;have h20:=hF.2.2.2.2.2.2.2.2.2.2.2.2.2.2.2.2.2.2.2.2.1;have h21:=hF.2.2.2.2.2.2.2.2.2.2.2.2.2.2.2.2.2.2.2.2.2;simp only[JS];simp only[jF,Act.put,zq,Is] at hK⊢;simp only[hF];clear hF;refine jN ?_;refine Exists.elim h20 λkv' h=>?_;have hs20:=h.1;have hkv:=h.2;refine Exists.elim (jR hkv) λva h=>Exists.elim h λvc h=>?_;have hs:=h.1;rw[hs] at hkv hs20;clear h h20 hs h19;refine Exists.elim h21 λg h=>?_;have hs21:=h.1;have hgB:=h.2.1;have jK:=h.2.2;clear h h21;rw[hs20,hs21];clear hs20 hs21;have f0:=jE jK 0;have f1:=jE jK 1;have f2:=jE jK 2;have f3:=jE jK 3;have f4:=jE jK 4;have f5:=jE jK 5;obtain⟨d0,d1,d2,d3,d4,d5⟩:=sqr6 jK;have hrow2:=Z3 jK (.int .i64 k) (.int .i64 n) (.int .u64 u) (.string (JT s j4)) (.slice va (qB keys 64 j4).length vc) (.slice none 0 0);have hmv:=yJ w2' g (.int .i64 k) (.int .i64 n) (.int .u64 u) (.string (JT s j4)) (.slice va (qB keys 64 j4).length vc) (.slice none 0 0);have hkv2:zG _ (N+2) (.slice va (qB keys 64 j4).length vc) (qB keys 64 j4):=Moved.owns hmv hkv (λq hq e=>KU hkv jK zd (by rw[hq,e]));have hgr:=Moved.fresh hG hmv (λq e=>by have:=HS2.out;omega);clear hG jK hmv hkv;go_simp;refine hK _ _ ?_;clear f0 f1 f2 f3 f4 f5 d0 d1 d2 d3 d4 d5 hK;generalize ((((((w2'.setCell ⟨g,0,none⟩ (.int .i64 k)).setCell ⟨g,1,none⟩ (.int .i64 n)).setCell ⟨g,2,none⟩ (.int .u64 u)).setCell ⟨g,3,none⟩ (.string (JT s j4))).setCell ⟨g,4,none⟩ (.slice va (qB keys 64 j4).length vc)).setCell ⟨g,5,none⟩ (.slice none 0 0))=w3 at *;have KP:=zh hrow2;have HKV:=zh hkv2;have HB1':=zh (hgr.heap HB1.out);have HB2':=zh (hgr.heap HB2.out);have HRB':=zh (hgr.heap HRB.out);have HG3:=zh (HG.trans hgr);clear hrow2 hkv2 HB1 HB2 HRB HG c0 c1 c2 c3 c4' r1;have hgN:Hid (N+2≤g):=hgB;clear hgB;generalize y 19=y19;have hkz2:Hid (∀x∈qB keys 64 j4,kI x.size):=sJ hkz.out 64 j4;generalize hK2:qB keys 64 j4=keys2 at *;have HK2:=zh hK2;clear hK2;have hsl2:Hid (kI (JT s j4).size):=sK hsl.out j4;generalize hSS:JT s j4=s2 at *;have HSS:=zh hSS;clear hSS;go_wp2_with fail
 go_loopw [6,7] (λv i wr=>∃(kk lf:Nat),kk≤l.length∧lf≤4096∧i=.int .i64 kk∧Hid (J2 (λg=>g=rb) w3 wr v (kJ j4 left (l.take kk)).1∧(kJ j4 left (l.take kk)).2=lf∧wr.heap[rb]? = some (gP lf j4))) (λ_ i _=>l.length - (intOf i).toNat)
 case atStart=>exact⟨0,left,Nat.zero_le _,hleft,rfl,by
  show _∧_∧_
  exact⟨by simpa [kJ] using J2.start _ _,by simp[kJ],HRB'.out⟩⟩
 case round=>
  obtain⟨kk,lf,hkk,hlf,rfl,HW⟩:=hrel;have hm3:Moved (λg=>g=rb) w3 wr:=by obtain⟨_,_,_,_,_,hm⟩:=HW.1;exact hm
  have HM:=zh hm3;have b5:=jA (hm3.heap HB1'.out (by have:=hrbN.out;omega)) 5 _ rfl;have q0:=jA HW.2.2 0 _ rfl;clear hm3;by_cases hgo:kk < l.length∧0 < lf
  ·obtain⟨hlt,hpos⟩:=hgo;obtain⟨p,rfl⟩:∃p,lf=p+1:=⟨lf - 1,by omega⟩;obtain⟨x,hx⟩:∃x,l[kk]? = some x:=⟨_,za hlt⟩;obtain⟨xv,hxv,hnx⟩:=HK.get hx;have hxm:x∈l:=qd hx;have HX:=zh (uQ j4 left l kk p x hx HW.2.1);have hxs:=HSZ.out x hxm;have hWr:Hid (jC W wr):=Moved.fresh (HW0.trans HG3.out) HM.out (λg h=>by omega);have HNX:=zh hnx
   obtain⟨b,off,rfl,hc6⟩:∃b off,a5=some ⟨b,off,none⟩∧yO wr b (off+kk*6) xv:=by
    obtain⟨a,c,e,_,_,_,h⟩:=kU.out;injection e with e1 e2 e3;subst e1;obtain⟨b,off,e,h6⟩:=h kk xv hxv;exact⟨b,off,e,h6.grew hWr.out⟩
   obtain⟨xk,xn,xu,xs,xa4,xn4,xc4,xa5,xn5,xc5,rfl⟩:=hnx.node6;have hmS:Moved (λg=>g=rb) wr (wr.setCell ⟨rb,0,none⟩ (.int .i64 p)):=Moved.setCell (S:=λg=>g=rb) (p:=⟨rb,0,none⟩) (Moved.refl _ wr) (λ_=>rfl) _;obtain⟨e0,e1,e2,e3,e4,e5⟩:=hc6.get;have qf:=jE HW.2.2 0;have hlti:(kk:Int) < l.length:=(by omega);have HROOM:=zh (EK HW.2.2 p)
   have hne:¬b=rb:=by
    have h0:=(hc6.grew (jC.refl _)).get.1;obtain⟨a,c,e,_,_,_,h⟩:=kU.out;injection e with e1 e2 e3;obtain⟨b',off',e,h6⟩:=h kk _ hxv;rw[← e1] at e;injection e with e;injection e with e;have:=yc W _ h6.get.1;simp only at this;omega
   have hne2:¬rb=b:=λe=>hne e.symm;have hrN:¬rb=N:=(by have:=hrbN.out;omega);have hrN2:¬N=rb:=(by have:=hrbN.out;omega);clear hc6 hx hxv hnx hxm hpos;have HMS:=zh hmS;have hrb3:Hid (rb < w3.heap.size):=(zc.1 HRB'.out).1;have HWS:Hid (jC W (wr.setCell ⟨rb,0,none⟩ (.int .i64 p))):=Moved.fresh hWr.out hmS (λg h=>by omega);have HWK:Hid (J2 (λg=>g=rb) w3 (wr.setCell ⟨rb,0,none⟩ (.int .i64 p)) u6 (kJ j4 left (l.take kk)).1):=HW.1.kept hmS (λg h=>by have:=hrb3.out;omega) (λ_ h=>h);clear hmS;go_wp2_with fail;refine (ih x hxs _ _ p zo HNX.out HWS.out HROOM.out).mono ?_;rintro r w4 ⟨xv,rfl,hox,hm4,hr4⟩;obtain⟨yk,yn,yu,ys,ya4,yn4,yc4,ya5,yn5,yc5,rfl⟩:=hox.node6;have HOX:=zh hox;have HM4:=zh hm4;have HR4:=zh hr4;obtain⟨vs4,S4,q1,q2,q3,q4⟩:=HWK.out;obtain⟨ga,gc,rfl,hz1,hz2,hz3⟩:=HWK.form
   have HLN:Hid ((kJ j4 left (l.take kk)).1.length≤4096):=by
    show _≤_;have h1:=K7 (kJ j4 left (l.take kk)).1;have h2:=aC j4 (l.take kk) left;omega
   have HV4:Hid (vs4.length≤4096):=by show _≤_;rw[q2.length];exact HLN.out
   have HLF:Hid ((JH j4 p x).2≤4096):=by
    show _≤_;have h1:=cK j4 x p;have h2:=(JH j4 p x).1.size_pos;omega
   have HQ1:=zh q1;have HQ2:=zh q2;have HQ3:=zh q3;have HQ4:=zh q4;have HSW:Hid (w3.heap.size≤w4.heap.size):=zf q4.size hm4.size;have HON:Hid (∀o,yM (w4.alloc o) w3.heap.size (.slice ga (kJ j4 left (l.take kk)).1.length gc) vs4):=λo=>yM.grew ⟨Moved.owns hm4 q1.1 (λg hg e=>by have:=(qm q1.1 g hg).1;have:=hrb3.out;omega),q1.2⟩ ((jC.refl _).alloc o);have HSZ4:Hid (∀o,w3.heap.size≤(w4.alloc o).heap.size):=λo=>zf HSW.out ((jC.refl w4).alloc o).size;clear q0 q1 q2 q3 q4 hz1 hz2 hz3 hox hm4 hr4 HW HWK e0 e1 e2 e3 e4 e5 b5 qf;generalize (kJ j4 left (l.take kk)).1=L at *;go_wp2_with (at_builtin;refine vH rfl _ _ rfl w3.heap.size _ vs4 rfl (HON.out _) _ _ (.agg #[.int .i64 yk,.int .i64 yn,.int .u64 yu,.string ys,.slice ya4 yn4 yc4,.slice ya5 yn5 yc5]) rfl (qc _ _) ⟨_,_,_,_,_,_,_,_,_,_,rfl⟩ zp30 (HSZ4.out _) ?_;intro v' w5 j5 hgr hnx;obtain⟨va2,vc2,rfl,hz1,hz2,hz3⟩:=jR j5.1;have HG5:=zh (qa (J2.step (R:=λg=>g=rb) (λg h=>by have:=hrb3.out;omega) vs4 S4 HQ2.out HQ1.out HQ3.out HQ4.out HOX.out HM4.out _ j5 hgr hnx) ((Moved.of_grown hgr).heap (((jC.refl w4).alloc _).heap HR4.out) (λe=>by have:=(qm HQ1.1 rb e.symm).1;have:=hrb3.out;omega)));clear j5 hgr hnx hz1 hz2 hz3);go_roundw
   case rel=>
    refine⟨kk+1,(JH j4 p x).2,by omega,HLF.out,by go_num,?_⟩;show _∧_∧_;rw[HX];have hh:=HG5.out;rw[zb] at hh;exact⟨hh.1,rfl,hh.2⟩
   case measure=>simp[intOf];omega
  have hend:=BG j4 left l kk (by have:=HW.2.1;omega);have HE:=HW.out;rw[hend] at HE;have HEH:=zh HE;have jK:=HM.heap KP.out (by have:=hgN.out;have:=hrbN.out;omega);have j7:=HM.heap HB2'.out (by have:=hrbN.out;omega);have HROWW:=zh jK;have HRESW:=zh j7;have f5:=jE jK 5;have r0:=jE j7 0;have r1:=jE j7 1;have r2:=jE j7 2;have r3:=jE j7 3;have r4:=jE j7 4;have r5:=jE j7 5;obtain⟨d0,d1,d2,d3,d4,d5⟩:=sqr6 jK;obtain⟨z0,z1,z2,z3,z4,z5⟩:=sqr6 j7;have hne:¬g=N+1:=(by have:=hgN.out;omega);have hne2:¬N+1=g:=(by have:=hgN.out;omega);obtain⟨ga,gc,rfl,hz1,hz2,hz3⟩:=HE.1.form;obtain⟨L,hL⟩:∃L,(kJ j4 left l).1=L:=⟨_,rfl⟩;have hT:=aD wr g (N+1) (.int .i64 k) (.int .i64 n) (.int .u64 u) (.string s2) (.slice va keys2.length vc) (.slice ga (kJ j4 left l).1.length gc) (.slice ga (kJ j4 left l).1.length gc);have hWW:Moved (λq=>q=rb) w wr:=(Moved.of_grew HG3.out).trans' HM.out;have hMW:Moved (λq=>q=rb) w (kW (wr.setCell ⟨g,5,none⟩ (.slice ga (kJ j4 left l).1.length gc)) (N+1) (.int .i64 k) (.int .i64 n) (.int .u64 u) (.string s2) (.slice va keys2.length vc) (.slice ga (kJ j4 left l).1.length gc)):=hWW.trans hT (λj hj e=>by have h1:=HN.out;have h2:=hgN.out;rcases e with rfl | rfl<;>omega);have hkvW:zG wr (N+2) (.slice va keys2.length vc) keys2:=Moved.owns HM.out HKV.out (λq hq e=>by have:=(qm HKV.out q hq).1;have:=hrbN.out;omega);have hrbW:=hT.heap HE.2.2 (λe=>by have:=hgN.out;have:=hrbN.out;omega)
  have hfin:qA (kW (wr.setCell ⟨g,5,none⟩ (.slice ga (kJ j4 left l).1.length gc)) (N+1) (.int .i64 k) (.int .i64 n) (.int .u64 u) (.string s2) (.slice va keys2.length vc) (.slice ga (kJ j4 left l).1.length gc)) w.heap.size (.mk k n u s2 keys2 (kJ j4 left l).1) (.agg #[.int .i64 k,.int .i64 n,.int .u64 u,.string s2,.slice va keys2.length vc,.slice ga (kJ j4 left l).1.length gc]) (JB w (kW (wr.setCell ⟨g,5,none⟩ (.slice ga (kJ j4 left l).1.length gc)) (N+1) (.int .i64 k) (.int .i64 n) (.int .u64 u) (.string s2) (.slice va keys2.length vc) (.slice ga (kJ j4 left l).1.length gc))):=by
   have h1:=HN.out;have h2:=hgN.out;have h3:g < w3.heap.size:=(zc.1 KP.out).1;have h4:N+1 < w3.heap.size:=(zc.1 HB2'.out).1;refine J2.tree (((HE.1.wider (T:=λq=>q=rb∨(q=g∨q=N+1)) (λ_ h=>.inl h)).kept hT (λq hq=>?_) (λ_ h=>.inr h))) ⟨HB.1,HB.2.1,HB.2.2.1,hsl2.out,hkz2.out⟩ HG3.size ?_ (λq hq=>(qm HKV.out q hq).2)
   ·rcases hq with rfl|rfl<;>omega
   exact zb23
  have HFIN:Hid (qA (kW (wr.setCell ⟨g,5,none⟩ (.slice ga (kJ j4 left l).1.length gc)) (N+1) (.int .i64 k) (.int .i64 n) (.int .u64 u) (.string s2) (.slice va keys2.length vc) (.slice ga (kJ j4 left l).1.length gc)) w.heap.size (JH j4 left (.mk k n u s keys l)).1 (.agg #[.int .i64 k,.int .i64 n,.int .u64 u,.string s2,.slice va keys2.length vc,.slice ga (kJ j4 left l).1.length gc]) (JB w (kW (wr.setCell ⟨g,5,none⟩ (.slice ga (kJ j4 left l).1.length gc)) (N+1) (.int .i64 k) (.int .i64 n) (.int .u64 u) (.string s2) (.slice va keys2.length vc) (.slice ga (kJ j4 left l).1.length gc))) ∧
   Moved (λq=>q=rb) w (kW (wr.setCell ⟨g,5,none⟩ (.slice ga (kJ j4 left l).1.length gc)) (N+1) (.int .i64 k) (.int .i64 n) (.int .u64 u) (.string s2) (.slice va keys2.length vc) (.slice ga (kJ j4 left l).1.length gc))∧(kW (wr.setCell ⟨g,5,none⟩ (.slice ga (kJ j4 left l).1.length gc)) (N+1) (.int .i64 k) (.int .i64 n) (.int .u64 u) (.string s2) (.slice va keys2.length vc) (.slice ga (kJ j4 left l).1.length gc)).heap[rb]? = some (gP (JH j4 left (.mk k n u s keys l)).2 j4)):=by
   show _∧_∧_;refine⟨?_,hMW,?_⟩
   ·simp only[JH];rw[HK2,HSS];exact hfin
   simp only[JH];rw[HE.2.1];exact hrbW
  clear hT hMW hWW hfin hkvW hrbW hend HE jK j7 hz1 hz2 hz3;rw[hL] at *;by_cases hlt:kk < l.length
  ·obtain rfl:lf=0:=(by omega);clear hgo;go_wp2;refine bodyPost_ret (v:=.agg #[.int .i64 k,.int .i64 n,.int .u64 u,.string s2,.slice va keys2.length vc,.slice ga L.length gc]) (by simp[results,results52,go_sem,z0,z1,z2,z3,z4,z5,hne,hne2]) rfl ?_;exact⟨_,rfl,HFIN.out⟩
  clear hgo;have hge:¬(kk:Int) < l.length:=(by omega);go_wp2;refine bodyPost_ret (v:=.agg #[.int .i64 k,.int .i64 n,.int .u64 u,.string s2,.slice va keys2.length vc,.slice ga L.length gc]) (by simp[results,results52,go_sem,z0,z1,z2,z3,z4,z5,hne,hne2]) rfl ?_;exact⟨_,rfl,HFIN.out⟩
theorem cL (x y:ByteArray):(x.toList == y.toList)=decide (x=y):=by
 rw[Bool.eq_iff_iff,xw,zp,ByteArray.toList_eq,ByteArray.toList_eq];exact⟨λh=>bytes_inj h,λh=>by rw[h]⟩
theorem sL (nodes j4:Nat) (hn1:1≤nodes) (hn:nodes≤4096) (hlong:j4≤1000) (t:Tr) (v:Value) (w:World) (h:jM w t v) :
 Calls prog 22 #[v,.int .i64 nodes,.int .i64 j4] w λr w'=>∃v',r=.returned v'∧qA w' w.heap.size (JH j4 (nodes - 1) t).1 v' (JB w w')∧jC w w':=by
 have HNA:=zh h;obtain⟨k,n,u,s,a4,n4,c4,a5,n5,c5,rfl⟩:=h.node6;clear h;obtain⟨p,rfl⟩:∃p,nodes=p+1:=⟨nodes - 1,by omega⟩;go_enter func22,ntmps22;go_wp2_with fail;have hb2:=qc (w.alloc (.cells #[.int .i64 k,.int .i64 n,.int .u64 u,.string s,.slice a4 n4 c4,.slice a5 n5 c5] 26)) (.cells #[.int .i64 0,.int .i64 0,.int .u64 0,.string ⟨#[]⟩,.slice none 0 0,.slice none 0 0] 26);have hg2:=((jC.refl w).alloc (.cells #[.int .i64 k,.int .i64 n,.int .u64 u,.string s,.slice a4 n4 c4,.slice a5 n5 c5] 26)).alloc (.cells #[.int .i64 0,.int .i64 0,.int .u64 0,.string ⟨#[]⟩,.slice none 0 0,.slice none 0 0] 26);have hs2:((w.alloc (.cells #[.int .i64 k,.int .i64 n,.int .u64 u,.string s,.slice a4 n4 c4,.slice a5 n5 c5] 26)).alloc (.cells #[.int .i64 0,.int .i64 0,.int .u64 0,.string ⟨#[]⟩,.slice none 0 0,.slice none 0 0] 26)).heap.size=w.heap.size+1+1:=by rw[zm,zm]
 rw[zm] at hb2;generalize ((w.alloc (.cells #[.int .i64 k,.int .i64 n,.int .u64 u,.string s,.slice a4 n4 c4,.slice a5 n5 c5] 26)).alloc (.cells #[.int .i64 0,.int .i64 0,.int .u64 0,.string ⟨#[]⟩,.slice none 0 0,.slice none 0 0] 26))=w2 at *;obtain⟨hb3,hg3⟩:=sqal w2 (.cells #[.int .i64 p,.int .i64 j4] 82);have hs3:(w2.alloc (.cells #[.int .i64 p,.int .i64 j4] 82)).heap.size=w2.heap.size+1:=zm _ _;rw[hs2] at hb3 hs3;generalize w2.alloc _=w3 at *;have HB2:=zh (hg3.heap hb2);have HG3:=zh (hg2.trans hg3);obtain⟨N,hN⟩:∃N,w.heap.size=N:=⟨_,rfl⟩;rw[hN] at hb3 HB2 hs3⊢;have HN:=zh hN;have HS3:=zh hs3;have hroom:w3.heap[N+1+1]? = some (gP p j4):=hb3;clear hb2 hb3 hg2 hg3 hs2 hs3 hN;refine (uR j4 hlong w (N+1+1) (by have:=HN.out;omega) t.size t (zr _) _ _ p zo HNA.out HG3.out hroom).mono ?_;rintro r w4 ⟨v',rfl,ho,hm,_⟩;obtain⟨yk,yn,yu,ys,ya4,yn4,yc4,ya5,yn5,yc5,rfl⟩:=ho.node6;have j7:=hm.heap HB2.out zo;have r0:=jE j7 0;have r1:=jE j7 1;have r2:=jE j7 2;have r3:=jE j7 3;have r4:=jE j7 4;have r5:=jE j7 5;obtain⟨z0,z1,z2,z3,z4,z5⟩:=sqr6 j7;have hst:=yJ w4 (N+1) (.int .i64 yk) (.int .i64 yn) (.int .u64 yu) (.string ys) (.slice ya4 yn4 yc4) (.slice ya5 yn5 yc5);have hGW:jC w w4:=Moved.fresh HG3.out hm (λg h=>by have:=HN.out;omega);have hGF:jC w (kW w4 (N+1) (.int .i64 yk) (.int .i64 yn) (.int .u64 yu) (.string ys) (.slice ya4 yn4 yc4) (.slice ya5 yn5 yc5)):=Moved.fresh hGW hst (λg h=>by have:=HN.out;omega);have hfin:=((ho.kept hst (λg hg e=>by have h1:=HS3.out;have h2:=hg.1;omega)).base (B':=w.heap.size) HG3.size).mono (T:=JB w (kW w4 (N+1) (.int .i64 yk) (.int .i64 yn) (.int .u64 yu) (.string ys) (.slice ya4 yn4 yc4) (.slice ya5 yn5 yc5))) (λg hg=>⟨zf HG3.size hg.1,qk hg.2 hst.size⟩);have HFIN:=zh (qa hfin hGF);clear hst hGW hGF hfin ho hm j7 hroom;go_wp2;refine bodyPost_ret (v:=.agg #[.int .i64 yk,.int .i64 yn,.int .u64 yu,.string ys,.slice ya4 yn4 yc4,.slice ya5 yn5 yc5]) (by simp[results,results22,go_sem,z0,z1,z2,z3,z4,z5]) rfl ?_;exact⟨_,rfl,by simpa using HFIN.1,HFIN.2⟩
theorem lP (a b:List ByteArray) (v u:Value) (w:World) (ha:zB w v a) (hb:zB w u b) :
 Calls prog 58 #[v,u] w λr w'=>r=.returned (.bool (decide (a=b)))∧jC w w':=by
 have HA:=zh ha;have HB:=zh hb;obtain⟨aa,ac,rfl,hla,hac,hz1,hz2⟩:=ha;obtain⟨ba,bc,rfl,hlb,hbc,hz3,hz4⟩:=hb;unfold kI at hac hbc;have hal:a.length≤9223372036854775807:=by omega
 have hbl:b.length≤9223372036854775807:=by omega
 clear hz1 hz2 hz3 hz4 hac hbc hla hlb;by_cases hl:a.length=b.length
 ·have HL:=zh hl;rw[← hl] at HB⊢;clear hl hbl;go_enter func58,ntmps58;go_wp2_with fail
  go_loopw [13] (λi wr=>∃k:Nat,k≤a.length∧i=.int .i64 k∧Hid (a.take k=b.take k∧jC w wr)) (λi _=>a.length - (intOf i).toNat)
  case atStart=>exact⟨0,Nat.zero_le _,rfl,by show _∧_;exact⟨by simp,jC.refl _⟩⟩
  case round=>
   obtain⟨k,hk,rfl,HW⟩:=hrel;by_cases hlt:k < a.length
   ·obtain⟨x,hx⟩:∃x,a[k]? = some x:=⟨_,za hlt⟩;have hltb:k < b.length:=(by have:=HL.out;omega);obtain⟨y,hy⟩:∃y,b[k]? = some y:=⟨_,za hltb⟩
    obtain⟨ax,ab,aoff,rfl,hca⟩:kI x.size∧∃b off,aa=some ⟨b,off,none⟩∧w.cell? ⟨b,off+k,none⟩=some (.string x):=by
     obtain⟨a',c',e,_,_,_,h⟩:=HA.out;injection e with e1 e2 e3;subst e1;exact h k x hx
    obtain⟨bx,bb,boff,rfl,hcb⟩:kI y.size∧∃b off,ba=some ⟨b,off,none⟩∧w.cell? ⟨b,off+k,none⟩=some (.string y):=by
     obtain⟨a',c',e,_,_,_,h⟩:=HB.out;injection e with e1 e2 e3;subst e1;exact h k y hy
    have c0:=HW.2.cell hca;have c1:=HW.2.cell hcb;have HXY:=zh (qa hx hy);clear hx hy hca hcb ax bx;have hlti:(k:Int) < a.length:=(by omega);by_cases hxy:x=y
    ·subst hxy;go_wp2_with fail;go_quiet (fail);go_wp2;go_roundw
     case rel=>exact⟨k+1,by omega,by go_num,by
      show _∧_;obtain⟨h1,h2⟩:=HXY.out
      exact⟨by rw[qo,qo,HW.1,h1,h2],HW.2.drewN _⟩⟩
     case measure=>simp[intOf];omega
    have hne:Hid (¬a=b):=λe=>hxy (by
     obtain⟨h1,h2⟩:=HXY.out;rw[e,h2] at h1;injection h1 with h1
     exact h1.symm)
    have hbne:(x.toList == y.toList)=false:=(by rw[cL];exact decide_eq_false hxy);clear hxy;go_wp2_with fail;go_quiet (fail);go_wp2;go_ret;exact⟨by rw[decide_eq_false hne.out];rfl,HW.2.drewN _⟩
   have ek:k=a.length:=(by omega);subst ek
   have heq:Hid (a=b):=by
    show _=_;have h:=HW.1;rw[qn,HL,qn] at h;exact h
   go_wp2;go_ret;exact⟨by rw[qt heq.out];rfl,HW.2⟩
 have hne:Hid (¬a=b):=λe=>hl (by rw[e]);have hb1:((a.length:Int) != b.length)=true:=by simp;omega
 go_enter func58,ntmps58;go_wp2;go_ret;exact⟨by rw[decide_eq_false hne.out];rfl,jC.refl _⟩
def G6 (l:List Tr):Prop:=∀x∈l,∀(y:Tr) (v u:Value) (w:World),jM w x v→jM w y u→Calls prog 34 #[v,u] w λr w'=>∃b,r=.returned (.bool b)∧(b=true↔x=y)∧jC w w'
theorem n8 (l l2:List Tr) (lv lv2:Value) (vs vs2:List Value) (w:World) (hr:y9 w lv vs) (hk:kZ w l vs) (hr2:y9 w lv2 vs2) (hk2:kZ w l2 vs2) (hs:G6 l) :
 Calls prog 59 #[lv,lv2,.func (.func 34) #[] #[]] w λr w'=>∃b,r=.returned (.bool b)∧(b=true↔l=l2)∧jC w w':=by
 have HR:=zh hr;have HK:=zh hk;have HR2:=zh hr2;have HK2:=zh hk2;have HS:=zh hs;have hkl:=hk.length;have hkl2:=hk2.length;obtain⟨a,c,rfl,hlc,hc,hz1,hz2⟩:=hr;obtain⟨a2,c2,rfl,hlc2,hc2,hz3,hz4⟩:=hr2;unfold kI at hc hc2;rw[hkl] at HR hlc⊢;rw[hkl2] at HR2 hlc2⊢;have kE:l.length≤9223372036854775807:=by omega
 have hlen2:l2.length≤9223372036854775807:=by omega
 clear hz1 hz2 hz3 hz4 hk hk2 hkl hkl2 hlc hc hlc2 hc2 hs;by_cases hl:l.length=l2.length
 ·have HL:=zh hl;rw[← hl] at HR2⊢;clear hl hlen2;go_enter func59,ntmps59;go_wp2_with fail
  go_loopw [17] (λi wr=>∃k:Nat,k≤l.length∧i=.int .i64 k∧Hid (l.take k=l2.take k∧jC w wr)) (λi _=>l.length - (intOf i).toNat)
  case atStart=>exact⟨0,Nat.zero_le _,rfl,by show _∧_;exact⟨by simp,jC.refl _⟩⟩
  case round=>
   obtain⟨k,hk,rfl,HW⟩:=hrel;by_cases hlt:k < l.length
   ·obtain⟨x,hx⟩:∃x,l[k]? = some x:=⟨_,za hlt⟩;have hltb:k < l2.length:=(by have:=HL.out;omega);obtain⟨y,hy⟩:∃y,l2[k]? = some y:=⟨_,za hltb⟩;obtain⟨xv,hxv,hnx⟩:=HK.get hx;obtain⟨yv,hyv,hny⟩:=HK2.get hy
    obtain⟨b,off,rfl,hc6⟩:∃b off,a=some ⟨b,off,none⟩∧yO wr b (off+k*6) xv:=by
     obtain⟨a,c,e,_,_,_,h⟩:=HR.out;injection e with e1 e2 e3;subst e1;obtain⟨b,off,e,h6⟩:=h k xv hxv;exact⟨b,off,e,h6.grew HW.2⟩
    obtain⟨b',off',rfl,hd6⟩:∃b off,a2=some ⟨b,off,none⟩∧yO wr b (off+k*6) yv:=by
     obtain⟨a,c,e,_,_,_,h⟩:=HR2.out;injection e with e1 e2 e3;subst e1;obtain⟨b,off,e,h6⟩:=h k yv hyv;exact⟨b,off,e,h6.grew HW.2⟩
    obtain⟨xk,xn,xu,xs,xa4,xn4,xc4,xa5,xn5,xc5,rfl⟩:=hnx.node6;obtain⟨yk,yn,yu,ys,ya4,yn4,yc4,ya5,yn5,yc5,rfl⟩:=hny.node6;obtain⟨e0,e1,e2,e3,e4,e5⟩:=hc6.get;obtain⟨f0,f1,f2,f3,f4,f5⟩:=hd6.get;have g0:=λo=>((jC.refl wr).alloc o).cell f0;have g1:=λo=>((jC.refl wr).alloc o).cell f1;have g2:=λo=>((jC.refl wr).alloc o).cell f2;have g3:=λo=>((jC.refl wr).alloc o).cell f3;have g4:=λo=>((jC.refl wr).alloc o).cell f4;have g5:=λo=>((jC.refl wr).alloc o).cell f5;have HNX:=zh (qa hnx hny);have HX:=zh (qa hx hy);have HXM:=zh (qd hx);clear hc6 hd6 hx hxv hnx hy hyv hny f0 f1 f2 f3 f4 f5;have hlti:(k:Int) < l.length:=(by omega);go_wp2_with fail;refine (HS.out x HXM.out y _ _ _ (HNX.1.grew (HW.2.trans (((jC.refl wr).alloc _).alloc _))) (HNX.2.grew (HW.2.trans (((jC.refl wr).alloc _).alloc _)))).mono ?_;rintro r w3 ⟨bb,rfl,hbb,hg⟩;have HG:=zh (HW.2.trans (jC.trans (((jC.refl wr).alloc _).alloc _) hg));clear hg;cases bb
    ·have HBB:Hid (¬x=y):=λe=>absurd (hbb.2 e) zd;clear hbb;go_wp2;go_ret;refine⟨false,rfl,⟨λh=>absurd h zd,λh=>?_⟩,HG.out⟩;obtain⟨h1,h2⟩:=HX.out;rw[h,h2] at h1;injection h1 with h1;exact absurd h1.symm HBB.out
    have HBB:Hid (x=y):=hbb.1 rfl;clear hbb;go_wp2_with fail;go_roundw
    case rel=>exact⟨k+1,by omega,by go_num,by
     show _∧_;obtain⟨h1,h2⟩:=HX.out
     exact⟨by rw[qo,qo,HW.1,h1,h2,HBB],HG.out⟩⟩
    case measure=>simp[intOf];omega
   have ek:k=l.length:=(by omega);subst ek
   have heq:Hid (l=l2):=by
    show _=_;have h:=HW.1;rw[qn,HL,qn] at h;exact h
   go_wp2;go_ret;exact⟨true,rfl,⟨λ_=>heq.out,λ_=>rfl⟩,HW.2⟩
 have hne:Hid (¬l=l2):=λe=>hl (by rw[e]);have hb1:((l.length:Int) != l2.length)=true:=by simp;omega
 go_enter func59,ntmps59;go_wp2;go_ret;exact⟨false,rfl,⟨λh=>absurd h zd,λh=>absurd h hne.out⟩,jC.refl _⟩
-- SAME
theorem G7:∀(m:Nat) (t:Tr),t.size≤m→∀(t2:Tr) (v v2:Value) (w:World),jM w t v→jM w t2 v2 →
 Calls prog 34 #[v,v2] w λr w'=>∃b,r=.returned (.bool b)∧(b=true↔t=t2)∧jC w w':=by
 intro m
 induction m with
 | zero=>intro t ht;have:=t.size_pos;omega
 | succ m ih=>
 intro t ht t2 v v2 w hn hn2;obtain⟨k,n,u,s,keys,l⟩:=t;obtain⟨k2,n2,u2,s2,keys2,l2⟩:=t2;simp only[jM] at hn hn2;obtain⟨hb,kv,lv,vs,rfl,hks,yU,zN⟩:=hn;obtain⟨hb2,kv2,lv2,vs2,rfl,hks2,hrows2,hkids2⟩:=hn2;have HKS:=zh hks;have HKS2:=zh hks2;have HR:=zh (qa yU zN);have HR2:=zh (qa hrows2 hkids2);obtain⟨a4,c4,rfl,hx1,hx2,hx3,hx4⟩:=hks;obtain⟨b4,d4,rfl,hy1,hy2,hy3,hy4⟩:=hks2;clear hx1 hx2 hx3 hx4 hy1 hy2 hy3 hy4;obtain⟨a5,c5,rfl,hll,hc5,hx3,hx4⟩:=yU;obtain⟨b5,d5,rfl,hll2,hd5,hy3,hy4⟩:=hrows2;have hS:Hid (G6 l):=λx hx y v u w h1 h2=>ih x (by have:=JC hx;simp only[Tr.size] at ht;omega) y v u w h1 h2;clear hx3 hx4 hll hy3 hy4 hll2 hc5 hd5 hb hb2 zN hkids2 ih ht;by_cases h0:k=k2;rotate_left
 ·have hne:Hid (¬(Tr.mk k n u s keys l=Tr.mk k2 n2 u2 s2 keys2 l2)):=λe=>h0 (by injection e);have hB:(k == k2)=false:=by simp[h0]
  clear h0;go_enter func34,ntmps34;go_wp2;go_ret;exact⟨false,rfl,⟨λh=>absurd h zd,λh=>absurd h hne.out⟩,((jC.refl w).alloc _).alloc _⟩
 subst h0;by_cases h1:n=n2;rotate_left
 ·have hne:Hid (¬(Tr.mk k n u s keys l=Tr.mk k n2 u2 s2 keys2 l2)):=λe=>h1 (by injection e);have hB:(n == n2)=false:=by simp[h1]
  clear h1;go_enter func34,ntmps34;go_wp2;go_ret;exact⟨false,rfl,⟨λh=>absurd h zd,λh=>absurd h hne.out⟩,((jC.refl w).alloc _).alloc _⟩
 subst h1;by_cases h2:u=u2;rotate_left
 ·have hne:Hid (¬(Tr.mk k n u s keys l=Tr.mk k n u2 s2 keys2 l2)):=λe=>h2 (by injection e);have hB:(u == u2)=false:=by simp[h2]
  clear h2;go_enter func34,ntmps34;go_wp2;go_ret;exact⟨false,rfl,⟨λh=>absurd h zd,λh=>absurd h hne.out⟩,((jC.refl w).alloc _).alloc _⟩
 subst h2;by_cases h3:s=s2;rotate_left
 ·have hne:Hid (¬(Tr.mk k n u s keys l=Tr.mk k n u s2 keys2 l2)):=λe=>h3 (by injection e);have hB:(s.toList == s2.toList)=false:=by rw[cL];exact decide_eq_false h3
  clear h3;go_enter func34,ntmps34;go_wp2;go_ret;exact⟨false,rfl,⟨λh=>absurd h zd,λh=>absurd h hne.out⟩,((jC.refl w).alloc _).alloc _⟩
 subst h3;by_cases h4:keys=keys2;rotate_left
 ·have hne:Hid (¬(Tr.mk k n u s keys l=Tr.mk k n u s keys2 l2)):=λe=>h4 (by injection e);have hB:decide (keys=keys2)=false:=decide_eq_false h4;have HBD:=zh hB;clear h4 hB;go_enter func34,ntmps34;go_wp2_with fail;have hh:=lP keys keys2 _ _ _ (HKS.grew (((jC.refl w).alloc (.cells #[.int .i64 k,.int .i64 n,.int .u64 u,.string s,.slice a4 keys.length c4,.slice a5 vs.length c5] 26)).alloc (.cells #[.int .i64 k,.int .i64 n,.int .u64 u,.string s,.slice b4 keys2.length d4,.slice b5 vs2.length d5] 26))) (HKS2.grew (((jC.refl w).alloc (.cells #[.int .i64 k,.int .i64 n,.int .u64 u,.string s,.slice a4 keys.length c4,.slice a5 vs.length c5] 26)).alloc (.cells #[.int .i64 k,.int .i64 n,.int .u64 u,.string s,.slice b4 keys2.length d4,.slice b5 vs2.length d5] 26)));rw[HBD] at hh;refine hh.mono ?_;clear hh;rintro r w3 ⟨rfl,hg⟩;have HG:=zh (jC.trans (((jC.refl w).alloc (.cells #[.int .i64 k,.int .i64 n,.int .u64 u,.string s,.slice a4 keys.length c4,.slice a5 vs.length c5] 26)).alloc (.cells #[.int .i64 k,.int .i64 n,.int .u64 u,.string s,.slice b4 keys2.length d4,.slice b5 vs2.length d5] 26)) hg);clear hg;go_wp2;go_ret;exact⟨false,rfl,⟨λh=>absurd h zd,λh=>absurd h hne.out⟩,HG.out⟩
 subst h4;go_enter func34,ntmps34;go_wp2_with fail;obtain⟨hA1,hG1⟩:=sqal w (.cells #[.int .i64 k,.int .i64 n,.int .u64 u,.string s,.slice a4 keys.length c4,.slice a5 vs.length c5] 26);have hS1:(w.alloc (.cells #[.int .i64 k,.int .i64 n,.int .u64 u,.string s,.slice a4 keys.length c4,.slice a5 vs.length c5] 26)).heap.size=w.heap.size+1:=zm _ _;generalize w.alloc (.cells #[.int .i64 k,.int .i64 n,.int .u64 u,.string s,.slice a4 keys.length c4,.slice a5 vs.length c5] 26)=w1 at *;obtain⟨hA2,hG2⟩:=sqal w1 (.cells #[.int .i64 k,.int .i64 n,.int .u64 u,.string s,.slice b4 keys.length d4,.slice b5 vs2.length d5] 26);rw[hS1] at hA2;generalize w1.alloc (.cells #[.int .i64 k,.int .i64 n,.int .u64 u,.string s,.slice b4 keys.length d4,.slice b5 vs2.length d5] 26)=w2 at *;replace hA1:=hG2.heap hA1;have HG:=zh (hG1.trans hG2);clear hG1 hG2 hS1;have hh:=lP keys keys _ _ _ (HKS.grew HG.out) (HKS2.grew HG.out);rw[qt rfl] at hh;refine hh.mono ?_;clear hh;rintro r w3 ⟨rfl,hg⟩;replace hA1:=hg.heap hA1;replace hA2:=hg.heap hA2;replace HG:=zh (HG.trans hg);have a0:=jA hA1 5 _ rfl;have b0:=jA hA2 5 _ rfl;clear hA1 hA2 hg;go_wp2_with fail;refine (n8 l l2 _ _ vs vs2 w3 (HR.1.grew HG.out) (HR.2.grew HG.out) (HR2.1.grew HG.out) (HR2.2.grew HG.out) hS.out).mono ?_;rintro r w4 ⟨bb,rfl,hbb,hg⟩;have HX:=zh (qa hbb (HG.trans hg));clear hbb hg;go_wp2;go_ret;refine⟨bb,rfl,⟨λh=>?_,λh=>HX.1.2 (by injection h)⟩,HX.2⟩;rw[HX.1.1 h]
end Go.Proofs.YtdjoffgkndncfaaGreat
