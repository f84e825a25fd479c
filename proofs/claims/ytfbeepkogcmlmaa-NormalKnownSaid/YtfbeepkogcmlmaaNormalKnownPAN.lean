/-
  Texts of the proof.
-/
import Derived.Test.YtfbeepkogcmlmaaNormalKnownPAM
import Derived.StillTailTactics
import Derived.Deep.DeepCutAuto
import Derived.Deep.CutBlock
set_option linter.unusedVariables false
set_option linter.unusedSimpArgs false
set_option maxHeartbeats 16000000
set_option maxRecDepth 100000
namespace Go.Proofs.Ytfbeepkogcmlmaa
open Go Go.ChangeShapes Go.WideShapes Go.ChangeAt Go.RowKit Go.Joins Go.Deep
theorem made6:∀n:Nat,(madeCells #[.int .i64 0,.int .i64 0,.int .u64 0,.string ⟨#[]⟩,.slice none 0 0,.slice none 0 0] (n*6)).toList=(List.replicate n j7).flatMap zK
 | 0=>by simp[madeCells]
 | n+1=>by
  have ih:=made6 n
  rw[List.replicate_succ',List.flatMap_append,← ih]
  have e:(n+1)*6=n*6+1+1+1+1+1+1:=by omega
  simp only[madeCells,Array.toList_map,Array.toList_range,e,List.range_succ,List.map_append,List.map_cons,List.map_nil,List.append_assoc]
  congr 1
  have m0:n*6 % 6=0:=by omega
  have m1:(n*6+1) % 6=1:=by omega
  have m2:(n*6+1+1) % 6=2:=by omega
  have m3:(n*6+1+1+1) % 6=3:=by omega
  have m4:(n*6+1+1+1+1) % 6=4:=by omega
  have m5:(n*6+1+1+1+1+1) % 6=5:=by omega
  simp[j7,zK,m0,m1,m2,m3,m4,m5]
theorem ZC (n:Nat) (hn:n≤4096) (w:World) :
 (Instr.makeSlice 24 (.int .i64 (n:Int)) (.int .i64 (n:Int))).run Try.prog w=.ok (.slice (some ⟨w.heap.size,0,none⟩) n n) (w.alloc (.cells (madeCells #[.int .i64 0,.int .i64 0,.int .u64 0,.string ⟨#[]⟩,.slice none 0 0,.slice none 0 0] (n*6)) 26)):=by
 obtain⟨i0,h1,h2,h3,h4⟩:=K4
 have h:=run_make (P:=Try.prog) w 24 26 i0 j7 Try.underlying24 h1 h2 .i64 .i64 n n (by omega) (by omega) (by rw[h4];omega) (by omega)
 rw[h3] at h
 simp only[Int.toNat_natCast] at h
 exact h
theorem ZY (n:Nat) (hn:n≤4096) (w:World) :
 (Instr.makeSlice 23 (.int .i64 (n:Int)) (.int .i64 (n:Int))).run Try.prog w=.ok (.slice (some ⟨w.heap.size,0,none⟩) n n) (w.alloc (.cells (madeCells #[.string ⟨#[]⟩] n) 9)):=
 run_make_row' (P:=Try.prog) 23 9 (.string ⟨#[]⟩) 16 Try.underlying23 Try.infoStr rfl .i64 .i64 n (by omega) (by omega) w
theorem ZD {w:World} {B g n:Nat} (hn:n≤4096) (hB:B≤g) (h:w.heap[g]? = some (.cells (madeCells #[.int .i64 0,.int .i64 0,.int .u64 0,.string ⟨#[]⟩,.slice none 0 0,.slice none 0 0] (n*6)) 26 (0,0))) :
 kK w B (.slice (some ⟨g,0,none⟩) n n) (List.replicate n j7):=by
 have hl:((List.replicate n j7).flatMap zK).length=n*6:=by rw[← made6,Array.length_toList,size_madeCells]
 refine⟨⟨by simpa using hl,.inr ⟨g,n,_,by simp,hB,h,by simp,by unfold maxLen;omega,size_madeCells _ _,?_⟩⟩,fun x hx=>?_⟩
 ·rw[List.length_replicate,made6,List.take_of_length_le (by omega)]
 ·obtain⟨_,rfl⟩:=List.mem_replicate.1 hx
  exact⟨_,_,_,_,_,_,_,_,_,_,rfl⟩
theorem ZZ {w:World} {B g n:Nat} (hn:n≤4096) (hB:B≤g) (h:w.heap[g]? = some (.cells (madeCells #[.string ⟨#[]⟩] n) 9 (0,0))) :
 kD w B (.slice (some ⟨g,0,none⟩) n n) (List.replicate n ⟨#[]⟩):=by
 unfold kD
 refine⟨by simp,.inr ⟨g,n,_,by simp,hB,h,by simp,by unfold maxLen;omega,by rw[size_madeCells];omega,?_⟩⟩
 rw[List.length_replicate,toList_madeCells_one,List.take_of_length_le (by simp)]
 simp
theorem vM (w:World) (g o:Nat) (a b c d e f:Value):Moved (fun k=>k=g) w ((((((w.setCell ⟨g,o,none⟩ a).setCell ⟨g,o+1,none⟩ b).setCell ⟨g,o+2,none⟩ c).setCell ⟨g,o+3,none⟩ d).setCell ⟨g,o+4,none⟩ e).setCell ⟨g,o+5,none⟩ f):=
 Moved.setCell (S:=fun k=>k=g) (p:=⟨g,o+5,none⟩) (Moved.setCell (S:=fun k=>k=g) (p:=⟨g,o+4,none⟩) (Moved.setCell (S:=fun k=>k=g) (p:=⟨g,o+3,none⟩) (Moved.setCell (S:=fun k=>k=g) (p:=⟨g,o+2,none⟩) (Moved.setCell (S:=fun k=>k=g) (p:=⟨g,o+1,none⟩) (Moved.setCell (S:=fun k=>k=g) (p:=⟨g,o,none⟩) (Moved.refl _ w) (fun _=>rfl) _) (fun _=>rfl) _) (fun _=>rfl) _) (fun _=>rfl) _) (fun _=>rfl) _) (fun _=>rfl) _
theorem VR:∀{l:List Tr},(∀x∈l,okT x)→okL l
 | [],_=>trivial
 | t::r,h=>by
  simp only[okL]
  exact⟨h t (by simp),VR fun x hx=>h x (by simp[hx])⟩
def ZE (W B:Nat) (Sx:Nat→Prop) (gL n c q:Nat) (i:Nat) (w w':World):Prop:=
 w=w'∨(i=4∧w.heap.size=W∧Moved Sx w w'∧w.heap.size < w'.heap.size) ∨
 (i=6∧W < w.heap.size∧w.heap.size≤w'.heap.size∧Moved (fun g=>g=gL) w w'∧∃y,qX y∧∀vs,q < vs.length→kK w B (.slice (some ⟨gL,0,none⟩) n c) vs→kK w' B (.slice (some ⟨gL,0,none⟩) n c) (vs.set q y))
theorem KM {W B:Nat} {Sx:Nat→Prop} {gL n c q:Nat} (i:Nat) (w w':World) (h:ZE W B Sx gL n c q i w w'):Moved (fun g=>Sx g∨g=gL) w w':=by
 rcases h with rfl|⟨_,_,hm,_⟩|⟨_,_,_,hm,_⟩
 ·exact Moved.refl _ _
 ·exact hm.mono (fun _ _ h=>.inl h)
 ·exact hm.mono (fun _ _ h=>.inr h)
theorem QF {vs:List Value} {q:Nat} {x:Value} (h:vs[q]? = some x):vs.set q x=vs:=by
 apply List.ext_getElem?
 intro i
 rw[List.getElem?_set]
 split
 ·rename_i e;subst e
  split
  ·exact h.symm
  ·rename_i hn;rw[List.getElem?_eq_none (by omega)]
 ·rfl
theorem YA {W B:Nat} {Sx:Nat→Prop} {gL n c q:Nat} {VV:List Value} {y:Value} {i:Nat} (hi:i≠6) {w w':World} (ht:ZE W B Sx gL n c q i w w') (h:W < w.heap.size∧kK w B (.slice (some ⟨gL,0,none⟩) n c) (VV.set q y)):W < w'.heap.size∧kK w' B (.slice (some ⟨gL,0,none⟩) n c) (VV.set q y):=by
 rcases ht with rfl|⟨_,e,_⟩|⟨e,_⟩
 ·exact h
 ·omega
 ·exact absurd e hi
theorem YB {W B:Nat} {Sx:Nat→Prop} {gL n c q:Nat} {VV:List Value} {x:Tr} {xv:Value} {i:Nat} (hi:i≠4) {w w':World} (ht:ZE W B Sx gL n c q i w w') (h:w.heap.size=W∧jW w B x xv Sx∧kK w B (.slice (some ⟨gL,0,none⟩) n c) VV):w'.heap.size=W∧jW w' B x xv Sx∧kK w' B (.slice (some ⟨gL,0,none⟩) n c) VV:=by
 rcases ht with rfl|⟨e,_⟩|⟨_,e,_⟩
 ·exact h
 ·exact absurd e hi
 ·omega
def QG (W B:Nat) (Sx:Nat→Prop) (gL n c q:Nat) (VV:List Value) (x:Tr) (y:Value) (w:World):Prop:=
 W < w.heap.size∧(∃Sy,jW w B (kB x) y Sy∧∀g,Sy g→Sx g∨(W≤g∧g < w.heap.size))∧∃z,kK w B (.slice (some ⟨gL,0,none⟩) n c) (VV.set q z)
theorem QG.step {W B:Nat} {Sx:Nat→Prop} {gL n c q:Nat} {VV:List Value} {x:Tr} {y:Value} (hq:q < VV.length) (hL:¬Sx gL∧gL < W) {i:Nat} (hi:i≠4) {w w':World} (ht:ZE W B Sx gL n c q i w w') (h:QG W B Sx gL n c q VV x y w):QG W B Sx gL n c q VV x y w':=by
 rcases ht with rfl|⟨e,_⟩|⟨_,hW,hsz,hm,u,hu,hst⟩
 ·exact h
 ·exact absurd e hi
 ·obtain⟨h1,⟨Sy,ho,hs⟩,z,hz⟩:=h
  refine⟨by omega,⟨Sy,ho.kept hm (fun g hg e=>?_),fun g hg=>(hs g hg).imp id fun h=>⟨h.1,by omega⟩⟩,u,?_⟩
  ·subst e
   rcases hs _ hg with h|h
   ·exact hL.1 h
   ·omega
  ·have:=hst _ (by rw[List.length_set];exact hq) hz
   rwa [List.set_set] at this
def LoopS (wc wr:World) (B:Nat) (S':Nat→Prop) (lv:Value) (l:List Tr) (q:Nat):Prop:=
 ∃vs1 vs2 S1 S2,vs1.length=q∧kK wr B lv (vs1++vs2)∧j4 wr B (zV (l.take q)) vs1 S1∧j4 wr B (l.drop q) vs2 S2∧(∀g,S1 g→¬S2 g)∧(∀g,S1 g→S' g∨jX wc wr g)∧(∀g,S2 g→S' g) ∧
  Moved (fun g=>S' g∨lv.ownBlock=some g) wc wr
structure yQ (S:Nat→Prop) (P0 P1 Q0 Q1:World→Prop) (w w':World):Prop where
 moved:Moved S w w'
 p1:P1 w→P1 w'
 p0:P0 w∨P1 w→P0 w'∨P1 w'
 q1:Q1 w→Q1 w'
 q0:Q0 w∨Q1 w→Q0 w'∨Q1 w'
theorem yQ.refl {S:Nat→Prop} {P0 P1 Q0 Q1:World→Prop} (w:World):yQ S P0 P1 Q0 Q1 w w:=⟨Moved.refl _ _,id,id,id,id⟩
theorem yQ.trans {S:Nat→Prop} {P0 P1 Q0 Q1:World→Prop} {a b c:World} (h:yQ S P0 P1 Q0 Q1 a b) (k:yQ S P0 P1 Q0 Q1 b c):yQ S P0 P1 Q0 Q1 a c:=
 ⟨h.moved.trans' k.moved,fun x=>k.p1 (h.p1 x),fun x=>k.p0 (h.p0 x),fun x=>k.q1 (h.q1 x),fun x=>k.q0 (h.q0 x)⟩
def zW {α:Type} {n:Nat} (p:List (Fin n)) (f:Nat→α) (z:α) (q:Nat):List α:=(p.take q).map (fun x=>f x.1)++List.replicate (n - q) z
section
variable {α:Type} {n:Nat} {p:List (Fin n)} {f:Nat→α} {z:α}
theorem ZF:zW p f z 0=List.replicate n z:=by simp[zW]
theorem aG (hp:p.length=n):zW p f z n=p.map fun x=>f x.1:=by
 unfold zW
 rw[List.take_of_length_le (by omega)];simp
theorem JK (hp:p.length=n) {q:Nat} (hq:q≤n):(zW p f z q).length=n:=by simp[zW,hp];omega
theorem YC (hp:p.length=n) {q:Nat} (hq:q < n):(zW p f z q)[q]? = some z:=by
 have:(p.take q).length=q:=by rw[List.length_take];omega
 unfold zW
 rw[List.getElem?_append_right (by rw[List.length_map];omega),List.length_map,this,Nat.sub_self,List.getElem?_replicate,if_pos (by omega)]
theorem YD (hp:p.length=n) {q:Nat} {x:Fin n} (hx:p[q]? = some x):(zW p f z q).set q (f x.1)=zW p f z (q+1):=by
 have hq:q < n:=by have:=(List.getElem?_eq_some_iff.1 hx).1;omega
 have h1:(p.take q).length=q:=by rw[List.length_take];omega
 unfold zW
 rw[List.set_append_right _ _ (by rw[List.length_map];omega),List.length_map,h1,Nat.sub_self,show n - q=(n - (q+1))+1 by omega,List.replicate_succ,zq2,List.take_add_one,hx]
 simp
end
theorem kK.at {w:World} {B g n c:Nat} {vs:List Value} (h:kK w B (.slice (some ⟨g,0,none⟩) n c) vs) {i:Nat} {x:Value} (hx:vs[i]? = some x):kQ w g (i*6) x:=by
 obtain⟨a,c',e,_,_,_,h1⟩:=h.rows
 injection e with e1 _ _
 obtain⟨b,off,e2,h2⟩:=h1 i x hx
 rw[← e1] at e2
 injection e2 with e2
 cases e2
 rwa [Nat.zero_add] at h2
theorem kK.frozen {w:World} {B g n c:Nat} {vs:List Value} (h:kK w B (.slice (some ⟨g,0,none⟩) n c) vs) (j:Nat):w.frozen? ⟨g,j,none⟩=false:=by
 have hn:n=vs.length:=by
  obtain⟨a,c,e,_⟩:=jT h.1
  injection e
 subst hn
 exact KL h.1 j
theorem kD.at {w:World} {B g n c:Nat} {ss:List ByteArray} (h:kD w B (.slice (some ⟨g,0,none⟩) n c) ss) {i:Nat} {x:ByteArray} (hx:ss[i]? = some x):w.cell? ⟨g,i,none⟩=some (.string x):=by
 have:=World.ownsRow.cells h (g:=g) rfl i (.string x) (by simp[hx])
 rw[add0,Nat.zero_add] at this
 exact this
theorem kD.frozen {w:World} {B g n c:Nat} {ss:List ByteArray} (h:kD w B (.slice (some ⟨g,0,none⟩) n c) ss) (j:Nat):w.frozen? ⟨g,j,none⟩=false:=by
 have hn:n=ss.length:=by
  obtain⟨a,c,e,_⟩:=jT h
  injection e
 subst hn
 exact KL h j
def MidS (w:World) (B:Nat) (S S':Nat→Prop) (k n u:Int) (s:ByteArray) (T:Tr) (m:Nat) (wc:World):Prop:=
 ∃keys3 l3 vs3 kv3 lv3,kB T=.mk k n u s keys3 (zV l3)∧okL l3∧(∀x∈l3,x.size≤m)∧l3.length≤4096∧(∀x∈keys3,jI x.size) ∧
  wc.heap[w.heap.size]? = some (.cells #[.int .i64 k,.int .i64 n,.int .u64 u,.string s,kv3,lv3] 26 (0,0)) ∧
  wc.heap[w.heap.size+1]? = some (.cells #[.int .i64 0,.int .i64 0,.int .u64 0,.string ⟨#[]⟩,.slice none 0 0,.slice none 0 0] 26 (0,0)) ∧
  kD wc B kv3 keys3∧kK wc B lv3 vs3∧j4 wc B l3 vs3 S' ∧
  (∀g,kv3.ownBlock=some g→(S g∨jX w wc g)∧¬S' g∧lv3.ownBlock≠some g)∧(∀g,lv3.ownBlock=some g→(S g∨jX w wc g)∧¬S' g∧g≠w.heap.size∧g≠w.heap.size+1)∧jC w wc
theorem YR {w wc wr:World} {B N:Nat} {S S':Nat→Prop} {k n u:Int} {s:ByteArray} {keys3:List ByteArray} {l3:List Tr} {kv lv:Value} {T:Tr} {cs:Array Value} (hst:kB T=.mk k n u s keys3 (zV l3)) (hb:jQ k∧jQ n∧j9 u∧jI s.size)
 (hlk:∀x∈keys3,jI x.size) (hN:w.heap.size=N) (hgw:jC w wc) (hkv:kD wc B kv keys3) (hlvb:∀g,lv.ownBlock=some g→g < wc.heap.size)
 (hk3:∀g,kv.ownBlock=some g→(S g∨jX w wc g)∧¬S' g∧lv.ownBlock≠some g) (hl3:∀g,lv.ownBlock=some g→(S g∨jX w wc g)∧¬S' g∧g≠N∧g≠N+1)
 (hS':∀g,S' g→S g) (hSw:∀g,S g→g < w.heap.size) (hlN:N+1 < wc.heap.size) (hbR:wr.heap[N+1]? = some (.cells cs 26 (0,0))) (hkr:kD wr B kv keys3) (hL:LoopS wc wr B S' lv l3 l3.length) :
 ∃S'',jW (jH wr (N+1) (.int .i64 k) (.int .i64 n) (.int .u64 u) (.string s) kv lv) B (kB T) (.agg #[.int .i64 k,.int .i64 n,.int .u64 u,.string s,kv,lv]) S'' ∧
  Moved S w (jH wr (N+1) (.int .i64 k) (.int .i64 n) (.int .u64 u) (.string s) kv lv)∧w.heap.size < (jH wr (N+1) (.int .i64 k) (.int .i64 n) (.int .u64 u) (.string s) kv lv).heap.size ∧
  ∀g,S'' g→S g∨jX w (jH wr (N+1) (.int .i64 k) (.int .i64 n) (.int .u64 u) (.string s) kv lv) g:=by
 obtain⟨vs1,vs2,S1,S2,hq1,jP,hk1,hk2,hdis,hs1,hs2,hm⟩:=hL
 rw[List.drop_length] at hk2
 simp only[j4] at hk2
 subst hk2
 rw[List.take_length] at hk1
 rw[List.append_nil] at jP
 have hT:Moved (fun k=>k=N+1) wr (jH wr (N+1) (.int .i64 k) (.int .i64 n) (.int .u64 u) (.string s) kv lv):=kC wr (N+1) (.int .i64 k) (.int .i64 n) (.int .u64 u) (.string s) kv lv
 generalize jH wr (N+1) (.int .i64 k) (.int .i64 n) (.int .u64 u) (.string s) kv lv=W at *
 have hsz1:=hgw.size
 have hsz2:=hm.size
 have hsz3:=hT.size
 have hkb:∀g,kv.ownBlock=some g→g < wc.heap.size:=fun g hg=>(World.ownsRow.lt hkv g hg).2
 refine⟨fun g=>kv.ownBlock=some g∨lv.ownBlock=some g∨S1 g,?_,?_,by omega,?_⟩
 ·rw[hst]
  simp only[jW]
  refine⟨⟨hb.1,hb.2.1,hb.2.2.1,hb.2.2.2,hlk⟩,kv,lv,vs1,S1,rfl,Moved.owns hT hkr (fun g hg e=>?_),⟨Moved.owns hT jP.1 (fun g hg e=>?_),jP.2⟩,fun g hg=>⟨.inl hg,fun h=>?_⟩,fun g hg=>⟨.inr (.inl hg),fun h=>?_⟩,fun g hg=>(hk3 g hg).2.2,fun g h=>.inr (.inr h),hk1.kept hT (fun g h e=>?_)⟩
  ·exact zM hkr hbR (by decide) (e ▸ hg)
  ·exact (hl3 g hg).2.2.2 e
  ·rcases hs1 g h with e|e
   ·exact (hk3 g hg).2.1 e
   ·have:=hkb g hg;have:=e.1;omega
  ·rcases hs1 g h with e|e
   ·exact (hl3 g hg).2.1 e
   ·have:=hlvb g hg;have:=e.1;omega
  ·rcases hs1 g h with e'|e'
   ·have:=hSw g (hS' g e');omega
   ·have:=e'.1;omega
 ·refine ((Moved.of_grew hgw).trans hm (fun j hj h=>?_)).trans hT (fun j hj h=>by omega)
  rcases h with h|h
  ·exact hS' j h
  ·rcases (hl3 j h).1 with e|e
   ·exact e
   ·have:=e.1;omega
 ·rintro g (h|h|h)
  ·exact (hk3 g h).1.imp id fun e=>⟨e.1,by have:=e.2;omega⟩
  ·exact (hl3 g h).1.imp id fun e=>⟨e.1,by have:=e.2;omega⟩
  ·rcases hs1 g h with e|e
   ·exact .inl (hS' g e)
   ·exact .inr ⟨by have:=e.1;omega,by have:=e.2;omega⟩
theorem QH {keys:List ByteArray} {l:List Tr} (h:keys.length=l.length) (i:Nat) (a:ByteArray) (b:Tr):(keys.zip l).getD i (a,b)=(keys.getD i a,l.getD i b):=by
 simp only[List.getD_eq_getElem?_getD]
 by_cases hi:i < l.length
 ·rw[List.getElem?_eq_getElem (by simp;omega),List.getElem?_eq_getElem (by omega),List.getElem?_eq_getElem hi];simp
 ·rw[List.getElem?_eq_none (by simp;omega),List.getElem?_eq_none (by omega),List.getElem?_eq_none (by omega)];rfl
theorem VA {n u:Int} {s:ByteArray} {keys:List ByteArray} {l:List Tr} (hl:keys.length=l.length) {p:List (Fin keys.length)} (hp:p.Perm (List.finRange keys.length)) (hs:∀(i j:Nat) x y,i < j→p[i]? = some x→p[j]? = some y→ltS keys[x] keys[y]=true) (a:ByteArray) (b:Tr) :
 kB (.mk 17 n u s keys l)=.mk 17 n u s (p.map fun x=>keys.getD x.1 a) (zV (p.map fun x=>l.getD x.1 b)):=by
 have h1:=Q9 hl hp hs (a,b)
 have h2:yC (keys.zip (zV l))=(yC (keys.zip l)).map fun q=>(q.1,kB q.2):=by
  rw[vL,k7]
  congr 1
  apply List.ext_getElem (by simp)
  intro i _ _
  simp
 simp only[kB,if_true,h2,← h1,List.map_map]
 congr 1
 ·apply List.map_congr_left
  intro x _
  simp only[Function.comp,QH hl]
 ·rw[k7,List.map_map]
  apply List.map_congr_left
  intro x _
  simp only[Function.comp,QH hl]
theorem QI:∀(m:Nat) (t:Tr),t.size≤m→okT t→∀(v:Value) (w:World) (B:Nat) (S:Nat→Prop),jW w B t v S→B≤w.heap.size→(∀g,S g→g < w.heap.size) →
 Calls Try.prog 38 #[v] w fun r w'=>∃v' S',r=.returned v'∧jW w' B (kB t) v' S'∧Moved S w w'∧w.heap.size < w'.heap.size∧∀g,S' g→S g∨jX w w' g:=by
 intro m
 induction m with
 | zero=>intro t ht;have:=t.size_pos;omega
 | succ m ih=>
 intro t ht hok v w B S kE hBw hSw
 have hv6:=kE.node6
 obtain⟨k,n,u,s,keys,l⟩:=t
 simp only[jW] at kE
 obtain⟨hb,kv,lv,vs,S',rfl,hkv,hlv,d1,d2,d3,d4,kP⟩:=kE
 have hkl:vs.length=l.length:=kP.length
 simp only[okT] at hok
 obtain⟨hok1,hok2,hok3,hok4⟩:=hok
 have hsz:∀x∈l,x.size≤m:=fun x hx=>by have:=k9 hx;simp only[Tr.size] at ht;omega
 have HIH:=zh ih
 have HB:=zh hb
 have HOWN:=zh (And.intro hkv (And.intro hlv kP))
 have HD:=zh (And.intro d1 (And.intro d2 (And.intro d3 d4)))
 have HOK:=zh (And.intro hok1 hok4)
 have HSZ:=zh hsz
 have HBW:=zh hBw
 have HSW:=zh hSw
 obtain⟨a4,c4,rfl,hx1,hx2,hx3⟩:=jT hkv
 obtain⟨a5,c5,rfl,hx4,hx5,hx6⟩:=jT hlv.1
 have HFR:Hid ((∀g,(Value.slice a5 vs.length c5).ownBlock=some g→g < w.heap.size)∧(∀g,(Value.slice a4 keys.length c4).ownBlock=some g→g < w.heap.size)):=⟨fun g hg=>(World.ownsRow.lt hlv.1 g hg).2,fun g hg=>(World.ownsRow.lt hkv g hg).2⟩
 clear ih hb hkv hlv kP d1 d2 d3 d4 hok1 hok4 hsz hBw hSw hx1 hx2 hx3 hx4 hx5 hx6 ht
 rw[hkl] at HOWN HD HFR hv6⊢
 have HKL:=zh hkl
 clear hkl
 go_enter Try.func38,Try.ntmps38
 go_upto_if 13 with fail
 have hb1:=heap_alloc_new w (.cells #[.int .i64 k,.int .i64 n,.int .u64 u,.string s,.slice a4 keys.length c4,.slice a5 l.length c5] 26)
 have hg1:=(jC.refl w).alloc (.cells #[.int .i64 k,.int .i64 n,.int .u64 u,.string s,.slice a4 keys.length c4,.slice a5 l.length c5] 26)
 have hs1:(w.alloc (.cells #[.int .i64 k,.int .i64 n,.int .u64 u,.string s,.slice a4 keys.length c4,.slice a5 l.length c5] 26)).heap.size=w.heap.size+1:=World.size_alloc _ _
 generalize (w.alloc (.cells #[.int .i64 k,.int .i64 n,.int .u64 u,.string s,.slice a4 keys.length c4,.slice a5 l.length c5] 26))=w1 at *
 have hb2:=heap_alloc_new w1 (.cells #[.int .i64 0,.int .i64 0,.int .u64 0,.string ⟨#[]⟩,.slice none 0 0,.slice none 0 0] 26)
 have hg2:=(jC.refl w1).alloc (.cells #[.int .i64 0,.int .i64 0,.int .u64 0,.string ⟨#[]⟩,.slice none 0 0,.slice none 0 0] 26)
 have hs2:(w1.alloc (.cells #[.int .i64 0,.int .i64 0,.int .u64 0,.string ⟨#[]⟩,.slice none 0 0,.slice none 0 0] 26)).heap.size=w1.heap.size+1:=World.size_alloc _ _
 rw[hs1] at hb2 hs2
 generalize (w1.alloc (.cells #[.int .i64 0,.int .i64 0,.int .u64 0,.string ⟨#[]⟩,.slice none 0 0,.slice none 0 0] 26))=w2 at *
 replace hb1:=hg2.heap hb1
 have hG:=hg1.trans hg2
 have hs2':w2.heap.size=w.heap.size+2:=by omega
 have HBX:=zh (And.intro hb1 hb2)
 have HG:=zh hG
 have HS2:=zh hs2'
 obtain⟨N,hN⟩:∃N,w.heap.size=N:=⟨_,rfl⟩
 have HN:=zh hN
 rw[hN] at hb1 hb2⊢
 clear hs1 hs2 hs2' hg1 hg2 hG hN
 go_cut [] (fun wc=>Hid (MidS w B S S' k n u s (.mk k n u s keys l) m wc))
 case first=>
  have d0:=jA hb1 0 _ rfl
  have d4:=jA hb1 4 _ rfl
  have d5:=jA hb1 5 _ rfl
  have f4:=jB hb1 4
  have f5:=jB hb1 5
  clear hb1 hb2
  by_cases hk:k=17
  rotate_left
  ·have HM:Hid (MidS w B S S' k n u s (.mk k n u s keys l) m w2):=by
    refine⟨keys,l,vs,_,_,?_,HOK.out.2,HSZ.out,hok3,HB.out.2.2.2.2,HBX.out.1,HBX.out.2,HOWN.out.1.grew HG.out,HOWN.out.2.1.grew HG.out,HOWN.out.2.2.grew HG.out,?_,?_,HG.out⟩
    ·simp only[kB];rw[if_neg hk]
    ·exact fun g hg=>⟨.inl (HD.out.1 g hg).1,(HD.out.1 g hg).2,HD.out.2.2.1 g hg⟩
    ·exact fun g hg=>⟨.inl (HD.out.2.1 g hg).1,(HD.out.2.1 g hg).2,by have:=HFR.out.1 g hg;omega,by have:=HFR.out.1 g hg;omega⟩
   have hkb:(k == 17)=false:=by simpa using hk
   clear hk
   go_wp2_with fail
   go_meet
   case rel=>exact HM
  subst hk
  obtain⟨hnd,hkl2⟩:=HOK.out.1 rfl
  have HKL2:=zh hkl2
  have HND:=zh hnd
  have HSTR:Hid (kO w2 (.slice a4 keys.length c4) keys):=(HOWN.out.1.strs HB.out.2.2.2.2).grew HG.out
  clear hnd hkl2
  go_wp2_with fail
  refine (aC keys hok2 _ _ HSTR.out).mono ?_
  rintro r w3 ⟨hg3,⟨hno,_⟩|⟨_,pv,rfl,blk,cap,p,rfl,hp,hps,hpc,rfl⟩⟩
  ·exact absurd HND.out hno
  replace d0:=hg3.cell d0
  replace d4:=hg3.cell d4
  replace d5:=hg3.cell d5
  have HP:=zh hp
  have HPS:=zh hps
  have HPC:=zh hpc
  have HG3:=zh hg3
  clear hp hps hpc hg3 f4 f5
  have hm1:=ZY keys.length hok2
  have hm2:=ZC keys.length hok2
  go_wp2_with fail
  refine kN jC [[],[0],[1],[],[3],[4],[2],[5]] [[(22,2),(23,3),(24,4),(25,5),(5,6),(6,7)],[(20,0),(23,3),(24,4),(25,5),(5,6),(6,7)],[(20,0),(21,1),(23,3),(24,4),(25,5),(6,7)],[(20,0),(21,1),(22,2),(25,5),(5,6),(6,7)],[(20,0),(21,1),(22,2),(23,3),(5,6),(6,7)],[(20,0),(21,1),(22,2),(23,3),(24,4),(5,6)],[(20,0),(21,1),(22,2),(23,3),(24,4),(25,5),(6,7)],[(20,0),(21,1),(22,2),(23,3),(24,4),(25,5),(5,6)]] [(20,0),(21,1),(22,2),(23,3),(24,4),(25,5),(5,6),(6,7)]
   [Is (.slice (some ⟨blk,0,none⟩) keys.length keys.length),Is (.int .i64 keys.length),fun v w=>∃g,v=.slice (some ⟨g,0,none⟩) keys.length keys.length∧w3.heap.size≤g∧w.heap[g]? = some (.cells (madeCells #[.string ⟨#[]⟩] keys.length) 9 (0,0)),Is (.slice (some ⟨blk,0,none⟩) keys.length keys.length),Is (.int .i64 keys.length),fun v w=>∃g,v=.slice (some ⟨g,0,none⟩) keys.length keys.length∧w3.heap.size≤g∧w.heap[g]? = some (.cells (madeCells #[.int .i64 0,.int .i64 0,.int .u64 0,.string ⟨#[]⟩,.slice none 0 0,.slice none 0 0] (keys.length*6)) 26 (0,0)),fun v w=>∃g,v=.slice (some ⟨g,0,none⟩) keys.length keys.length∧w3.heap.size≤g∧w.heap[g]? = some (.cells (madeCells #[.string ⟨#[]⟩] keys.length) 9 (0,0)),fun v w=>∃g,v=.slice (some ⟨g,0,none⟩) keys.length keys.length∧w3.heap.size≤g∧w.heap[g]? = some (.cells (madeCells #[.int .i64 0,.int .i64 0,.int .u64 0,.string ⟨#[]⟩,.slice none 0 0,.slice none 0 0] (keys.length*6)) 26 (0,0))]
   zk jC.trans jC.refl (jC.refl _).drew zk ⟨jG,jG,fun _ _ _ hg h=>h.elim fun q h=>⟨q,h.1,h.2.1,hg.heap h.2.2⟩,jG,jG,fun _ _ _ hg h=>h.elim fun q h=>⟨q,h.1,h.2.1,hg.heap h.2.2⟩,fun _ _ _ hg h=>h.elim fun q h=>⟨q,h.1,h.2.1,hg.heap h.2.2⟩,fun _ _ _ hg h=>h.elim fun q h=>⟨q,h.1,h.2.1,hg.heap h.2.2⟩,trivial⟩ ⟨?_,?_,?_,?_,?_,?_,?_,?_,trivial⟩ rfl ?_
  ·intro y wv hG hD K hK
   simp only[jD,Act.put,zq1,zq2,zq3,zq4,zq5,Is] at hK⊢
   refine jF ?_
   go_simp
   exact hK _ _ _ rfl (jC.refl _) rfl
  ·intro y wv hG hD K hK
   simp only[jM,zq4,zq5,Is,and_true] at hD
   have h0:=hD
   clear hD
   simp only[jD,Act.put,zq1,zq2,zq3,zq4,zq5,Is] at hK⊢
   rw[h0] at hK⊢
   clear h0
   refine jF ?_
   go_simp
   exact hK _ _ _ rfl (jC.refl _) rfl
  ·intro y wv hG hD K hK
   simp only[jM,zq4,zq5,Is,and_true] at hD
   have h1:=hD
   clear hD
   simp only[jD,Act.put,zq1,zq2,zq3,zq4,zq5,Is] at hK⊢
   rw[h1] at hK⊢
   clear h1
   refine jF ?_
   go_simp
   exact hK _ _ _ rfl ((jC.refl _).alloc _) ⟨_,rfl,hG.size,heap_alloc_new _ _⟩
  ·intro y wv hG hD K hK
   simp only[jD,Act.put,zq1,zq2,zq3,zq4,zq5,Is] at hK⊢
   refine jF ?_
   go_simp
   exact hK _ _ _ rfl (jC.refl _) rfl
  ·intro y wv hG hD K hK
   simp only[jM,zq4,zq5,Is,and_true] at hD
   have h3:=hD
   clear hD
   simp only[jD,Act.put,zq1,zq2,zq3,zq4,zq5,Is] at hK⊢
   rw[h3] at hK⊢
   clear h3
   refine jF ?_
   go_simp
   exact hK _ _ _ rfl (jC.refl _) rfl
  ·intro y wv hG hD K hK
   simp only[jM,zq4,zq5,Is,and_true] at hD
   have h4:=hD
   clear hD
   simp only[jD,Act.put,zq1,zq2,zq3,zq4,zq5,Is] at hK⊢
   rw[h4] at hK⊢
   clear h4
   refine jF ?_
   go_simp
   exact hK _ _ _ rfl ((jC.refl _).alloc _) ⟨_,rfl,hG.size,heap_alloc_new _ _⟩
  ·intro y wv hG hD K hK
   simp only[jM,zq4,zq5,Is,and_true] at hD
   have h2:=hD
   clear hD
   simp only[jD,Act.put,zq1,zq2,zq3,zq4,zq5,Is] at hK⊢
   refine jF ?_
   go_simp
   exact hK _ _ _ rfl (jC.refl _) h2
  ·intro y wv hG hD K hK
   simp only[jM,zq4,zq5,Is,and_true] at hD
   have h5:=hD
   clear hD
   simp only[jD,Act.put,zq1,zq2,zq3,zq4,zq5,Is] at hK⊢
   refine jF ?_
   go_simp
   exact hK _ _ _ rfl (jC.refl _) h5
  ·intro y wv hG hF
   simp only[zH,Is,and_true,Nat.reduceAdd] at hF
   have h0:=hF.1
   have h1:=hF.2.1
   have h2:=hF.2.2.1
   have h3:=hF.2.2.2.1
   have h4:=hF.2.2.2.2.1
   have h5:=hF.2.2.2.2.2.1
   have h6:=hF.2.2.2.2.2.2.1
   have h7:=hF.2.2.2.2.2.2.2
   clear hF
   simp only[jD,Act.put,zq1,zq2,zq3,zq4,zq5,Is]
   rw[h0,h1,h3,h4]
   clear h0 h1 h3 h4
   refine Exists.elim h2 fun g2 e2=>?_
   refine Exists.elim h5 fun g5 e5=>?_
   refine Exists.elim h6 fun gk e6=>?_
   refine Exists.elim h7 fun gl e7=>?_
   have q2:=e2.1
   have q5:=e5.1
   have q6:=e6.1
   have q7:=e7.1
   rw[q2,q5,q6,q7]
   have HGK:=zh e6.2
   have HGL:=zh e7.2
   have HGV:=zh hG
   clear h2 h5 h6 h7 e2 e5 e6 e7 q2 q5 q6 q7 hG hm1 hm2 d0 d4 d5
   have HNE:Hid (gk≠gl):=by
    show _≠_
    intro e
    subst e
    have h1:=HGK.out.2
    rw[HGL.out.2] at h1
    simp at h1
   go_wp2_with fail
   go_loopw [28] (fun i wr=>∃q:Nat,q≤keys.length∧i=.int .i64 q∧Hid (kD wr B (.slice (some ⟨gk,0,none⟩) keys.length keys.length) (zW p (fun x=>keys.getD x ⟨#[]⟩) ⟨#[]⟩ q)∧kK wr B (.slice (some ⟨gl,0,none⟩) keys.length keys.length) (zW p (fun x=>vs.getD x j7) j7 q)∧Moved (fun g=>g=gk∨g=gl) wv wr)) (fun i _=>keys.length - (intOf i).toNat)
   case atStart=>
    refine⟨0,Nat.zero_le _,rfl,?_⟩
    show _∧_∧_
    have hB3:B≤w3.heap.size:=Nat.le_trans HBW.out (Nat.le_trans HG.out.size HG3.out.size)
    refine⟨?_,?_,Moved.refl _ _⟩
    ·rw[ZF];exact ZZ hok2 (Nat.le_trans hB3 HGK.out.1) HGK.out.2
    ·rw[ZF];exact ZD hok2 (Nat.le_trans hB3 HGL.out.1) HGL.out.2
   case round=>
    obtain⟨q,hq,rfl,HW⟩:=hrel
    have hgw3:jC w3 wr:=Moved.fresh HGV.out HW.out.2.2 (fun g h=>by rcases h with rfl | rfl;exact HGK.out.1;exact HGL.out.1)
    have HGW:=zh hgw3
    clear hgw3
    have HBN:Hid (wr.heap[N]? = some (.cells #[.int .i64 17,.int .i64 n,.int .u64 u,.string s,.slice a4 keys.length c4,.slice a5 l.length c5] 26 (0,0))):=by
     show _=_
     rw[← HN.out]
     exact HGW.out.heap (HG3.out.heap HBX.out.1)
    have d4:=jA HBN.out 4 _ rfl
    have d5:=jA HBN.out 5 _ rfl
    by_cases hlt:q < keys.length
    ·obtain⟨x,hx⟩:∃x,p[q]? = some x:=⟨_,List.getElem?_eq_getElem (by rw[JI HP.out];exact hlt)⟩
     have pc:=HGW.out.cell (HPC.out q x hx)
     have hkx2:=HKL2.out
     have hpl:=JI HP.out
     obtain⟨xi,hxi⟩:=x
     have pc':wr.cell? ⟨blk,q,none⟩=some (.int .i64 (xi:Int)):=pc
     clear pc
     have hxl:xi < l.length:=by omega
     obtain⟨ks,hks⟩:∃ks,keys[xi]? = some ks:=⟨_,List.getElem?_eq_getElem hxi⟩
     obtain⟨xv,hxv⟩:∃xv,vs[xi]? = some xv:=⟨_,List.getElem?_eq_getElem (by have:=HKL.out;omega)⟩
     have hx6:=HOWN.out.2.1.2 xv (List.mem_of_getElem? hxv)
     have HS1:Hid ((zW p (fun x=>keys.getD x ⟨#[]⟩) ⟨#[]⟩ q).set q ks=zW p (fun x=>keys.getD x ⟨#[]⟩) ⟨#[]⟩ (q+1)):=by
      show _=_
      rw[← YD hpl hx];simp[List.getD_eq_getElem?_getD,hks]
     have HS2':Hid ((zW p (fun x=>vs.getD x j7) j7 q).set q xv=zW p (fun x=>vs.getD x j7) j7 (q+1)):=by
      show _=_
      rw[← YD hpl hx];simp[List.getD_eq_getElem?_getD,hxv]
     have HVL:Hid ((zW p (fun x=>vs.getD x j7) j7 q).length=keys.length):=JK hpl hq
     obtain⟨b4,o4,rfl,k1,hb4⟩:∃b4 o4,a4=some ⟨b4,o4,none⟩∧wr.cell? ⟨b4,o4+xi,none⟩=some (.string ks)∧b4 < w3.heap.size:=by
      obtain⟨a',c',e',_,_,_,h⟩:=HSTR.out
      injection e' with e1 _ _
      obtain⟨_,b,off,e4,hc⟩:=h xi ks hks
      exact⟨b,off,by rw[e1,e4],(HG3.out.trans HGW.out).cell hc,Nat.lt_of_lt_of_le (vU hc) HG3.out.size⟩
     obtain⟨b5,o5,rfl,h6,hb5⟩:∃b5 o5,a5=some ⟨b5,o5,none⟩∧kQ wr b5 (o5+xi*6) xv∧b5 < w3.heap.size:=by
      obtain⟨a',c',e',_,_,_,h⟩:=HOWN.out.2.1.rows
      injection e' with e1 _ _
      obtain⟨b,off,e4,hc⟩:=h xi xv hxv
      refine⟨b,off,by rw[e1,e4],hc.grew (HG.out.trans (HG3.out.trans HGW.out)),?_⟩
      obtain⟨_,_,_,_,_,_,_,hc0,_⟩:=hc
      exact Nat.lt_of_lt_of_le (vU hc0) (Nat.le_trans HG.out.size HG3.out.size)
     have HX6:=zh hx6
     obtain⟨yk,yn,yu,ys,ya4,yn4,yc4,ya5,yn5,yc5,rfl⟩:=hx6
     obtain⟨e0,e1,e2,e3,e4,e5⟩:=h6.get
     have HR:Hid (kD wr B (.slice (some ⟨gk,0,none⟩) keys.length keys.length) (zW p (fun x=>keys.getD x ⟨#[]⟩) ⟨#[]⟩ q)∧kK wr B (.slice (some ⟨gl,0,none⟩) keys.length keys.length) (zW p (fun x=>vs.getD x j7) j7 q)∧Moved (fun g=>g=gk∨g=gl) wv wr):=HW.out
     have yD:(q:Int) < keys.length:=by omega
     have hxii:(xi:Int) < keys.length:=by omega
     have hxli:(xi:Int) < l.length:=by omega
     have HPL:=zh hpl
     clear hx hks hxv h6 HW hkx2 hpl
     go_wp2_with fail
     obtain⟨ss0,hss0⟩:∃x,zW p (fun x=>keys.getD x ⟨#[]⟩) ⟨#[]⟩ q=x:=⟨_,rfl⟩
     obtain⟨ss1,hss1⟩:∃x,zW p (fun x=>keys.getD x ⟨#[]⟩) ⟨#[]⟩ (q+1)=x:=⟨_,rfl⟩
     obtain⟨vv0,hvv0⟩:∃x,zW p (fun x=>vs.getD x j7) j7 q=x:=⟨_,rfl⟩
     obtain⟨vv1,hvv1⟩:∃x,zW p (fun x=>vs.getD x j7) j7 (q+1)=x:=⟨_,rfl⟩
     have hg0:=YC (f:=fun x=>keys.getD x ⟨#[]⟩) (z:=(⟨#[]⟩:ByteArray)) HPL.out hlt
     have hg1:=YC (f:=fun x=>vs.getD x j7) (z:=j7) HPL.out hlt
     have hl1:=JK (f:=fun x=>vs.getD x j7) (z:=j7) HPL.out (q:=q) hq
     rw[hss0] at HR HS1 hg0
     rw[hss1] at HS1
     rw[hvv0] at HR HS2' hg1 hl1
     rw[hvv1] at HS2'
     have HSS:=zh (And.intro hss0 (And.intro hss1 (And.intro hvv0 hvv1)))
     clear hss0 hss1 hvv0 hvv1 HVL
     have hs11:ss1.set q ks=ss1:=by rw[← HS1.out,List.set_set]
     have hv11:vv1.set q (.agg #[.int .i64 yk,.int .i64 yn,.int .u64 yu,.string ys,.slice ya4 yn4 yc4,.slice ya5 yn5 yc5])=vv1:=by rw[← HS2'.out,List.set_set]
     have hg2:ss1[q]? = some ks:=by rw[← HS1.out,List.getElem?_set_self (by have:=(List.getElem?_eq_some_iff.1 hg0).1;omega)]
     have hg3':vv1[q]? = some (.agg #[.int .i64 yk,.int .i64 yn,.int .u64 yu,.string ys,.slice ya4 yn4 yc4,.slice ya5 yn5 yc5]):=by rw[← HS2'.out,List.getElem?_set_self (by omega)]
     have hl2:vv1.length=keys.length:=by rw[← HS2'.out,List.length_set];exact hl1
     obtain⟨P0,hP0⟩:∃P:World→Prop,P=fun w=>kD w B (.slice (some ⟨gk,0,none⟩) keys.length keys.length) ss0:=⟨_,rfl⟩
     obtain⟨P1,hP1⟩:∃P:World→Prop,P=fun w=>kD w B (.slice (some ⟨gk,0,none⟩) keys.length keys.length) ss1:=⟨_,rfl⟩
     obtain⟨Q0,hQ0⟩:∃P:World→Prop,P=fun w=>kK w B (.slice (some ⟨gl,0,none⟩) keys.length keys.length) vv0:=⟨_,rfl⟩
     obtain⟨Q1,hQ1⟩:∃P:World→Prop,P=fun w=>kK w B (.slice (some ⟨gl,0,none⟩) keys.length keys.length) vv1:=⟨_,rfl⟩
     have HPQ:Hid (P0 wr∧Q0 wr∧Moved (fun g=>g=gk∨g=gl) wv wr):=by
      show _∧_∧_
      rw[hP0,hQ0];exact HR.out
     -- the keys' row
     have HOP15:Hid (∀w,P0 w∨P1 w→(w.frozen? ⟨gk,q,none⟩=false∧∃u,w.cell? ⟨gk,q,none⟩=some (.string u))∧P1 (w.setCell ⟨gk,q,none⟩ (.string ks))∧yQ (fun g=>g=gk∨g=gl) P0 P1 Q0 Q1 w (w.setCell ⟨gk,q,none⟩ (.string ks))):=by
      intro w hw
      have hm:Moved (fun g=>g=gk) w (w.setCell ⟨gk,q,none⟩ (.string ks)):=Moved.setCell (S:=fun g=>g=gk) (p:=⟨gk,q,none⟩) (Moved.refl _ w) (fun _=>rfl) _
      have hP:P1 (w.setCell ⟨gk,q,none⟩ (.string ks)):=by
       rw[hP0,hP1] at hw
       rw[hP1]
       rcases hw with h|h
       ·have:=h.stored q ks;rw[HS1.out] at this;exact this
       ·have:=h.stored q ks;rw[hs11] at this;exact this
      have hQ:∀vv,kK w B (.slice (some ⟨gl,0,none⟩) keys.length keys.length) vv→kK (w.setCell ⟨gk,q,none⟩ (.string ks)) B (.slice (some ⟨gl,0,none⟩) keys.length keys.length) vv:=fun vv h=>⟨Moved.owns hm h.1 (fun g hg e=>HNE.out (by simp[Value.ownBlock] at hg;rw[← e,← hg])),h.2⟩
      refine⟨?_,hP,hm.mono (fun _ _ h=>.inl h),fun _=>hP,fun _=>.inr hP,?_,?_⟩
      ·rw[hP0,hP1] at hw
       rcases hw with h|h
       ·exact⟨h.frozen q,_,h.at hg0⟩
       ·exact⟨h.frozen q,_,h.at hg2⟩
      ·rw[hQ1];exact hQ _
      ·rw[hQ0,hQ1];exact Or.imp (hQ _) (hQ _)
     have HOP17:Hid (∀w,Q0 w∨Q1 w→(∃x,kQ w gl (q*6) x)∧(∀j,w.frozen? ⟨gl,j,none⟩=false)∧Q1 ((((((w.setCell ⟨gl,q*6,none⟩ (.int .i64 yk)).setCell ⟨gl,q*6+1,none⟩ (.int .i64 yn)).setCell ⟨gl,q*6+2,none⟩ (.int .u64 yu)).setCell ⟨gl,q*6+3,none⟩ (.string ys)).setCell ⟨gl,q*6+4,none⟩ (.slice ya4 yn4 yc4)).setCell ⟨gl,q*6+5,none⟩ (.slice ya5 yn5 yc5)) ∧
      yQ (fun g=>g=gk∨g=gl) P0 P1 Q0 Q1 w ((((((w.setCell ⟨gl,q*6,none⟩ (.int .i64 yk)).setCell ⟨gl,q*6+1,none⟩ (.int .i64 yn)).setCell ⟨gl,q*6+2,none⟩ (.int .u64 yu)).setCell ⟨gl,q*6+3,none⟩ (.string ys)).setCell ⟨gl,q*6+4,none⟩ (.slice ya4 yn4 yc4)).setCell ⟨gl,q*6+5,none⟩ (.slice ya5 yn5 yc5))):=by
      intro w hw
      have hm:=vM w gl (q*6) (.int .i64 yk) (.int .i64 yn) (.int .u64 yu) (.string ys) (.slice ya4 yn4 yc4) (.slice ya5 yn5 yc5)
      have hQ:Q1 ((((((w.setCell ⟨gl,q*6,none⟩ (.int .i64 yk)).setCell ⟨gl,q*6+1,none⟩ (.int .i64 yn)).setCell ⟨gl,q*6+2,none⟩ (.int .u64 yu)).setCell ⟨gl,q*6+3,none⟩ (.string ys)).setCell ⟨gl,q*6+4,none⟩ (.slice ya4 yn4 yc4)).setCell ⟨gl,q*6+5,none⟩ (.slice ya5 yn5 yc5)):=by
       rw[hQ0,hQ1] at hw
       rw[hQ1]
       rcases hw with h|h
       ·have:=h.stored (i:=q) (by rw[hl1];exact hlt) HX6.out rfl;rw[HS2'.out] at this;exact this
       ·have:=h.stored (i:=q) (by rw[hl2];exact hlt) HX6.out rfl;rw[hv11] at this;exact this
      have hP:∀ss,kD w B (.slice (some ⟨gk,0,none⟩) keys.length keys.length) ss→kD ((((((w.setCell ⟨gl,q*6,none⟩ (.int .i64 yk)).setCell ⟨gl,q*6+1,none⟩ (.int .i64 yn)).setCell ⟨gl,q*6+2,none⟩ (.int .u64 yu)).setCell ⟨gl,q*6+3,none⟩ (.string ys)).setCell ⟨gl,q*6+4,none⟩ (.slice ya4 yn4 yc4)).setCell ⟨gl,q*6+5,none⟩ (.slice ya5 yn5 yc5)) B (.slice (some ⟨gk,0,none⟩) keys.length keys.length) ss:=fun ss h=>Moved.owns hm h (fun g hg e=>HNE.out (by simp[Value.ownBlock] at hg;rw[hg,e]))
      refine⟨?_,?_,hQ,hm.mono (fun _ _ h=>.inr h),?_,?_,fun _=>hQ,fun _=>.inr hQ⟩
      ·rw[hQ0,hQ1] at hw
       rcases hw with h|h
       ·exact⟨_,h.at hg1⟩
       ·exact⟨_,h.at hg3'⟩
      ·rw[hQ0,hQ1] at hw
       rcases hw with h|h
       ·exact h.frozen
       ·exact h.frozen
      ·rw[hP1];exact hP _
      ·rw[hP0,hP1];exact Or.imp (hP _) (hP _)
     have hdrew:yQ (fun g=>g=gk∨g=gl) P0 P1 Q0 Q1 wr wr.drew:=by
      have hg:=(jC.refl wr).drew
      refine⟨Moved.of_grew hg,?_,?_,?_,?_⟩
      ·rw[hP1];exact fun h=>h.grew hg
      ·rw[hP0,hP1];exact Or.imp (fun h=>h.grew hg) (fun h=>h.grew hg)
      ·rw[hQ1];exact fun h=>h.grew hg
      ·rw[hQ0,hQ1];exact Or.imp (fun h=>h.grew hg) (fun h=>h.grew hg)
     have HPP:=zh (And.intro hP1 hQ1)
     clear hP0 hP1 hQ0 hQ1 hs11 hv11 hg0 hg1 hg2 hg3' hl1 hl2 HR pc'
     have n1:¬(N=gk∨N=gl):=by
      have h1:=HGK.out.1
      have h2:=HGL.out.1
      have h3:=HG3.out.size
      have h4:=HS2.out
      have h5:=HN.out
      omega
     have n2:¬(b4=gk∨b4=gl):=by have h1:=HGK.out.1;have h2:=HGL.out.1;omega
     have n3:¬(b5=gk∨b5=gl):=by have h1:=HGK.out.1;have h2:=HGL.out.1;omega
     clear hb4 hb5
     refine kN (yQ (fun g=>g=gk∨g=gl) P0 P1 Q0 Q1) [[],[],[],[],[],[4],[],[5,6],[7],[],[9],[],[10,11],[12],[0,1],[8,14],[2,3],[13,16]] [[(34,1),(35,2),(36,3),(37,4),(38,5),(39,6),(40,7),(41,8),(42,9),(43,10),(44,11),(45,12),(46,13),(48,16)],[(33,0),(35,2),(36,3),(37,4),(38,5),(39,6),(40,7),(41,8),(42,9),(43,10),(44,11),(45,12),(46,13),(48,16)],[(33,0),(34,1),(36,3),(37,4),(38,5),(39,6),(40,7),(41,8),(42,9),(43,10),(44,11),(45,12),(46,13),(47,14)],[(33,0),(34,1),(35,2),(37,4),(38,5),(39,6),(40,7),(41,8),(42,9),(43,10),(44,11),(45,12),(46,13),(47,14)],[(33,0),(34,1),(35,2),(36,3),(39,6),(40,7),(41,8),(42,9),(43,10),(44,11),(45,12),(46,13),(47,14),(48,16)],[(33,0),(34,1),(35,2),(36,3),(37,4),(39,6),(41,8),(42,9),(43,10),(44,11),(45,12),(46,13),(47,14),(48,16)],[(33,0),(34,1),(35,2),(36,3),(37,4),(38,5),(41,8),(42,9),(43,10),(44,11),(45,12),(46,13),(47,14),(48,16)],[(33,0),(34,1),(35,2),(36,3),(37,4),(38,5),(39,6),(42,9),(43,10),(44,11),(45,12),(46,13),(47,14),(48,16)],[(33,0),(34,1),(35,2),(36,3),(37,4),(38,5),(39,6),(40,7),(42,9),(43,10),(44,11),(45,12),(46,13),(47,14),(48,16)],[(33,0),(34,1),(35,2),(36,3),(37,4),(38,5),(39,6),(40,7),(41,8),(44,11),(45,12),(46,13),(47,14),(48,16)],[(33,0),(34,1),(35,2),(36,3),(37,4),(38,5),(39,6),(40,7),(41,8),(42,9),(44,11),(46,13),(47,14),(48,16)],[(33,0),(34,1),(35,2),(36,3),(37,4),(38,5),(39,6),(40,7),(41,8),(42,9),(43,10),(46,13),(47,14),(48,16)],[(33,0),(34,1),(35,2),(36,3),(37,4),(38,5),(39,6),(40,7),(41,8),(42,9),(43,10),(44,11),(47,14),(48,16)],[(33,0),(34,1),(35,2),(36,3),(37,4),(38,5),(39,6),(40,7),(41,8),(42,9),(43,10),(44,11),(45,12),(47,14),(48,16)],[(33,0),(34,1),(35,2),(36,3),(37,4),(38,5),(39,6),(40,7),(41,8),(42,9),(43,10),(44,11),(45,12),(46,13),(48,16)],[(33,0),(34,1),(35,2),(36,3),(37,4),(38,5),(39,6),(40,7),(41,8),(42,9),(43,10),(44,11),(45,12),(46,13),(47,14),(48,16)],[(33,0),(34,1),(35,2),(36,3),(37,4),(38,5),(39,6),(40,7),(41,8),(42,9),(43,10),(44,11),(45,12),(46,13),(47,14)],[(33,0),(34,1),(35,2),(36,3),(37,4),(38,5),(39,6),(40,7),(41,8),(42,9),(43,10),(44,11),(45,12),(46,13),(47,14),(48,16)]] [(33,0),(34,1),(35,2),(36,3),(37,4),(38,5),(39,6),(40,7),(41,8),(42,9),(43,10),(44,11),(45,12),(46,13),(47,14),(48,16)]
      [Is (.slice (some ⟨gk,0,none⟩) keys.length keys.length),Is (.int .i64 q),Is (.slice (some ⟨gl,0,none⟩) keys.length keys.length),Is (.int .i64 q),Is (.pointer (some ⟨N,4,none⟩)),Is (.slice (some ⟨b4,o4,none⟩) keys.length c4),Is (.int .i64 xi),Is (.pointer (some ⟨b4,o4+xi,none⟩)),Is (.string ks),Is (.pointer (some ⟨N,5,none⟩)),Is (.slice (some ⟨b5,o5,none⟩) l.length c5),Is (.int .i64 xi),Is (.pointer (some ⟨b5,o5+xi*6,none⟩)),Is (.agg #[.int .i64 yk,.int .i64 yn,.int .u64 yu,.string ys,.slice ya4 yn4 yc4,.slice ya5 yn5 yc5]),Is (.pointer (some ⟨gk,q,none⟩)),fun v w=>P1 w,Is (.pointer (some ⟨gl,q*6,none⟩)),fun v w=>Q1 w]
      zk yQ.trans yQ.refl hdrew zk ⟨jG,jG,jG,jG,jG,jG,jG,jG,jG,jG,jG,jG,jG,jG,jG,fun _ _ _ hg h=>hg.p1 h,jG,fun _ _ _ hg h=>hg.q1 h,trivial⟩ ⟨?_,?_,?_,?_,?_,?_,?_,?_,?_,?_,?_,?_,?_,?_,?_,?_,?_,?_,trivial⟩ rfl ?_
     ·intro y wz hG hD K hK
      simp only[jD,Act.put,zq1,zq2,zq3,zq4,zq5,Is] at hK⊢
      refine jF ?_
      go_simp
      exact hK _ _ _ rfl (yQ.refl _) rfl
     ·intro y wz hG hD K hK
      simp only[jD,Act.put,zq1,zq2,zq3,zq4,zq5,Is] at hK⊢
      refine jF ?_
      go_simp
      exact hK _ _ _ rfl (yQ.refl _) rfl
     ·intro y wz hG hD K hK
      simp only[jD,Act.put,zq1,zq2,zq3,zq4,zq5,Is] at hK⊢
      refine jF ?_
      go_simp
      exact hK _ _ _ rfl (yQ.refl _) rfl
     ·intro y wz hG hD K hK
      simp only[jD,Act.put,zq1,zq2,zq3,zq4,zq5,Is] at hK⊢
      refine jF ?_
      go_simp
      exact hK _ _ _ rfl (yQ.refl _) rfl
     ·intro y wz hG hD K hK
      simp only[jD,Act.put,zq1,zq2,zq3,zq4,zq5,Is] at hK⊢
      refine jF ?_
      go_simp
      exact hK _ _ _ rfl (yQ.refl _) rfl
     ·intro y wz hG hD K hK
      have dd:=hG.moved.cell d4 n1
      simp only[jM,zq4,zq5,Is,and_true] at hD
      have h4:=hD
      clear hD
      simp only[jD,Act.put,zq1,zq2,zq3,zq4,zq5,Is] at hK⊢
      rw[h4] at hK⊢
      clear h4
      refine jF ?_
      go_simp
      exact hK _ _ _ rfl (yQ.refl _) rfl
     ·intro y wz hG hD K hK
      simp only[jD,Act.put,zq1,zq2,zq3,zq4,zq5,Is] at hK⊢
      refine jF ?_
      go_simp
      exact hK _ _ _ rfl (yQ.refl _) rfl
     ·intro y wz hG hD K hK
      simp only[jM,zq4,zq5,Is,and_true] at hD
      have h5:=hD.1
      have h6:=hD.2
      clear hD
      simp only[jD,Act.put,zq1,zq2,zq3,zq4,zq5,Is] at hK⊢
      rw[h5,h6] at hK⊢
      clear h5 h6
      refine jF ?_
      go_simp
      exact hK _ _ _ rfl (yQ.refl _) rfl
     ·intro y wz hG hD K hK
      have dd:=hG.moved.cell k1 n2
      simp only[jM,zq4,zq5,Is,and_true] at hD
      have h7:=hD
      clear hD
      simp only[jD,Act.put,zq1,zq2,zq3,zq4,zq5,Is] at hK⊢
      rw[h7] at hK⊢
      clear h7
      refine jF ?_
      go_simp
      exact hK _ _ _ rfl (yQ.refl _) rfl
     ·intro y wz hG hD K hK
      simp only[jD,Act.put,zq1,zq2,zq3,zq4,zq5,Is] at hK⊢
      refine jF ?_
      go_simp
      exact hK _ _ _ rfl (yQ.refl _) rfl
     ·intro y wz hG hD K hK
      have dd:=hG.moved.cell d5 n1
      simp only[jM,zq4,zq5,Is,and_true] at hD
      have h9:=hD
      clear hD
      simp only[jD,Act.put,zq1,zq2,zq3,zq4,zq5,Is] at hK⊢
      rw[h9] at hK⊢
      clear h9
      refine jF ?_
      go_simp
      exact hK _ _ _ rfl (yQ.refl _) rfl
     ·intro y wz hG hD K hK
      simp only[jD,Act.put,zq1,zq2,zq3,zq4,zq5,Is] at hK⊢
      refine jF ?_
      go_simp
      exact hK _ _ _ rfl (yQ.refl _) rfl
     ·intro y wz hG hD K hK
      simp only[jM,zq4,zq5,Is,and_true] at hD
      have h10:=hD.1
      have h11:=hD.2
      clear hD
      simp only[jD,Act.put,zq1,zq2,zq3,zq4,zq5,Is] at hK⊢
      rw[h10,h11] at hK⊢
      clear h10 h11
      refine jF ?_
      go_simp
      exact hK _ _ _ rfl (yQ.refl _) rfl
     ·intro y wz hG hD K hK
      have dd0:=hG.moved.cell e0 n3
      have dd1:=hG.moved.cell e1 n3
      have dd2:=hG.moved.cell e2 n3
      have dd3:=hG.moved.cell e3 n3
      have dd4:=hG.moved.cell e4 n3
      have dd5:=hG.moved.cell e5 n3
      simp only[jM,zq4,zq5,Is,and_true] at hD
      have h12:=hD
      clear hD
      simp only[jD,Act.put,zq1,zq2,zq3,zq4,zq5,Is] at hK⊢
      rw[h12] at hK⊢
      clear h12
      refine jF ?_
      go_simp
      exact hK _ _ _ rfl (yQ.refl _) rfl
     ·intro y wz hG hD K hK
      simp only[jM,zq4,zq5,Is,and_true] at hD
      have h0:=hD.1
      have h1:=hD.2
      clear hD
      simp only[jD,Act.put,zq1,zq2,zq3,zq4,zq5,Is] at hK⊢
      rw[h0,h1] at hK⊢
      clear h0 h1
      refine jF ?_
      go_simp
      exact hK _ _ _ rfl (yQ.refl _) rfl
     ·intro y wz hG hD K hK
      simp only[jM,zq4,zq5,Is,and_true] at hD
      have h8:=hD.1
      have h14:=hD.2
      clear hD
      simp only[jD,Act.put,zq1,zq2,zq3,zq4,zq5,Is] at hK⊢
      rw[h8,h14] at hK⊢
      clear h8 h14
      refine jF ?_
      obtain⟨⟨ff,uu,cc⟩,hp,hr⟩:=HOP15.out wz (hG.p0 (.inl HPQ.out.1))
      go_simp
      exact hK _ undef _ rfl hr hp
     ·intro y wz hG hD K hK
      simp only[jM,zq4,zq5,Is,and_true] at hD
      have h2:=hD.1
      have h3:=hD.2
      clear hD
      simp only[jD,Act.put,zq1,zq2,zq3,zq4,zq5,Is] at hK⊢
      rw[h2,h3] at hK⊢
      clear h2 h3
      refine jF ?_
      go_simp
      exact hK _ _ _ rfl (yQ.refl _) rfl
     ·intro y wz hG hD K hK
      simp only[jM,zq4,zq5,Is,and_true] at hD
      have h13:=hD.1
      have h16:=hD.2
      clear hD
      simp only[jD,Act.put,zq1,zq2,zq3,zq4,zq5,Is] at hK⊢
      rw[h13,h16] at hK⊢
      clear h13 h16
      refine jF ?_
      obtain⟨⟨xx,hcc⟩,hff,hp,hr⟩:=HOP17.out wz (hG.q0 (.inl HPQ.out.2.1))
      obtain⟨z0,z1,z2,z3,z4,z5,rfl,cc0,cc1,cc2,cc3,cc4,cc5⟩:=hcc
      have ff0:=hff (q*6)
      have ff1:=hff (q*6+1)
      have ff2:=hff (q*6+2)
      have ff3:=hff (q*6+3)
      have ff4:=hff (q*6+4)
      have ff5:=hff (q*6+5)
      go_simp
      exact hK _ undef _ rfl hr hp
     ·intro y wz hG hF
      simp only[zH,Is,and_true,Nat.reduceAdd] at hF
      have h0:=hF.1
      have h1:=hF.2.1
      have h2:=hF.2.2.1
      have h3:=hF.2.2.2.1
      have h4:=hF.2.2.2.2.1
      have h5:=hF.2.2.2.2.2.1
      have h6:=hF.2.2.2.2.2.2.1
      have h7:=hF.2.2.2.2.2.2.2.1
      have h8:=hF.2.2.2.2.2.2.2.2.1
      have h9:=hF.2.2.2.2.2.2.2.2.2.1
      have h10:=hF.2.2.2.2.2.2.2.2.2.2.1
      have h11:=hF.2.2.2.2.2.2.2.2.2.2.2.1
      have h12:=hF.2.2.2.2.2.2.2.2.2.2.2.2.1
      have h13:=hF.2.2.2.2.2.2.2.2.2.2.2.2.2.1
      have h14:=hF.2.2.2.2.2.2.2.2.2.2.2.2.2.2.1
      have h15:=hF.2.2.2.2.2.2.2.2.2.2.2.2.2.2.2.1
      have h16:=hF.2.2.2.2.2.2.2.2.2.2.2.2.2.2.2.2.1
      have h17:=hF.2.2.2.2.2.2.2.2.2.2.2.2.2.2.2.2.2
      clear hF
      simp only[jD,Act.put,zq1,zq2,zq3,zq4,zq5,Is]
      rw[h0,h1,h2,h3,h4,h5,h6,h7,h8,h9,h10,h11,h12,h13,h14,h16]
      clear h0 h1 h2 h3 h4 h5 h6 h7 h8 h9 h10 h11 h12 h13 h14 h16
      rw[HPP.out.1] at h15
      rw[HPP.out.2] at h17
      have HE:Hid (kD wz B (.slice (some ⟨gk,0,none⟩) keys.length keys.length) ss1∧kK wz B (.slice (some ⟨gl,0,none⟩) keys.length keys.length) vv1∧Moved (fun g=>g=gk∨g=gl) wv wz):=⟨h15,h17,HPQ.out.2.2.trans' hG.moved⟩
      rw[← HSS.out.2.1,← HSS.out.2.2.2] at HE
      clear h15 h17 hG hdrew HPQ HOP15 HOP17 d4 d5 k1 e0 e1 e2 e3 e4 e5
      go_wp2_with fail
      go_roundw
      case rel=>exact⟨q+1,by omega,by go_num,HE⟩
      case measure=>simp[intOf];omega
    ·obtain rfl:q=keys.length:=by omega
     have HR:=HW
     have hpl:=JI HP.out
     have h1:=HR.out.1
     have h2:=HR.out.2.1
     rw[aG hpl] at h1 h2
     have f4:=jB HBN.out 4
     have f5:=jB HBN.out 5
     have j8:=zh (And.intro h1 h2)
     have HGR:=zh (HG.out.trans (HG3.out.trans HGW.out))
     have HFK:Hid (gk≠N∧gk≠N+1∧gl≠N∧gl≠N+1∧w.heap.size≤gk∧w.heap.size≤gl∧gk < wr.heap.size∧gl < wr.heap.size):=by
      have e1:=HGK.out.1
      have e2:=HGL.out.1
      have e3:=HG3.out.size
      have e4:=HS2.out
      have e5:=HN.out
      have e6:=HG.out.size
      have e7:=(World.ownsRow.lt h1 gk rfl).2
      have e8:=(World.ownsRow.lt h2.1 gl rfl).2
      show _∧_
      omega
     have HB1:Hid (wr.heap[N+1]? = some (.cells #[.int .i64 0,.int .i64 0,.int .u64 0,.string ⟨#[]⟩,.slice none 0 0,.slice none 0 0] 26 (0,0))):=by
      show _=_
      rw[← HN.out]
      exact HGW.out.heap (HG3.out.heap HBX.out.2)
     have HM:Hid (MidS w B S S' 17 n u s (.mk 17 n u s keys l) m ((wr.setCell ⟨N,4,none⟩ (.slice (some ⟨gk,0,none⟩) keys.length keys.length)).setCell ⟨N,5,none⟩ (.slice (some ⟨gl,0,none⟩) keys.length keys.length))):=by
      have hmv:Moved (fun g=>g=N) wr ((wr.setCell ⟨N,4,none⟩ (.slice (some ⟨gk,0,none⟩) keys.length keys.length)).setCell ⟨N,5,none⟩ (.slice (some ⟨gl,0,none⟩) keys.length keys.length)):=Moved.setCell (S:=fun g=>g=N) (p:=⟨N,5,none⟩) (Moved.setCell (S:=fun g=>g=N) (p:=⟨N,4,none⟩) (Moved.refl _ wr) (fun _=>rfl) _) (fun _=>rfl) _
      have hsz:wr.heap.size≤((wr.setCell ⟨N,4,none⟩ (.slice (some ⟨gk,0,none⟩) keys.length keys.length)).setCell ⟨N,5,none⟩ (.slice (some ⟨gl,0,none⟩) keys.length keys.length)).heap.size:=hmv.size
      have hbN:((wr.setCell ⟨N,4,none⟩ (.slice (some ⟨gk,0,none⟩) keys.length keys.length)).setCell ⟨N,5,none⟩ (.slice (some ⟨gl,0,none⟩) keys.length keys.length)).heap[N]? = some (.cells #[.int .i64 17,.int .i64 n,.int .u64 u,.string s,.slice (some ⟨gk,0,none⟩) keys.length keys.length,.slice (some ⟨gl,0,none⟩) keys.length keys.length] 26 (0,0)):=by
       have e1:=heap_setCell_same wr N 4 _ _ (.slice (some ⟨gk,0,none⟩) keys.length keys.length) HBN.out
       have e2:=heap_setCell_same _ N 5 _ _ (.slice (some ⟨gl,0,none⟩) keys.length keys.length) e1
       simpa using e2
      generalize ((wr.setCell ⟨N,4,none⟩ (.slice (some ⟨gk,0,none⟩) keys.length keys.length)).setCell ⟨N,5,none⟩ (.slice (some ⟨gl,0,none⟩) keys.length keys.length))=wc at *
      have hNN:=HN.out
      have hgr:jC w wc:=Moved.fresh HGR.out hmv (fun g e=>by rw[e];exact Nat.le_of_eq hNN)
      have hS:=HSW.out
      have hS':=HD.out.2.2.2
      have hl2:=HKL2.out
      obtain⟨f1,f2,f3,f4,f5,f6,f7,f8⟩:=HFK.out
      refine⟨p.map fun x=>keys.getD x.1 ⟨#[]⟩,p.map fun x=>l.getD x.1 (.mk 0 0 0 ⟨#[]⟩ [] []),p.map fun x=>vs.getD x.1 j7,.slice (some ⟨gk,0,none⟩) keys.length keys.length,.slice (some ⟨gl,0,none⟩) keys.length keys.length,VA hl2 HP.out HPS.out _ _,?_,?_,?_,?_,?_,?_,?_,?_,?_,?_,?_,hgr⟩
      ·refine VR fun x hx=>?_
       obtain⟨i,_,rfl⟩:=List.mem_map.1 hx
       have hi:i.1 < l.length:=by have:=i.2;omega
       rw[List.getD_eq_getElem?_getD,List.getElem?_eq_getElem hi]
       exact VO HOK.out.2 (List.getElem_mem hi)
      ·intro x hx
       obtain⟨i,_,rfl⟩:=List.mem_map.1 hx
       have hi:i.1 < l.length:=by have:=i.2;omega
       rw[List.getD_eq_getElem?_getD,List.getElem?_eq_getElem hi]
       exact HSZ.out _ (List.getElem_mem hi)
      ·rw[List.length_map,hpl];exact hok2
      ·intro x hx
       obtain⟨i,_,rfl⟩:=List.mem_map.1 hx
       rw[List.getD_eq_getElem?_getD,List.getElem?_eq_getElem i.2]
       exact HB.out.2.2.2.2 _ (List.getElem_mem i.2)
      ·rw[hNN];exact hbN
      ·rw[hNN];exact hmv.heap HB1.out (by omega)
      ·exact Moved.owns hmv j8.out.1 (fun g hg e=>by simp[Value.ownBlock] at hg;omega)
      ·exact⟨Moved.owns hmv j8.out.2.1 (fun g hg e=>by simp[Value.ownBlock] at hg;omega),j8.out.2.2⟩
      ·exact j4.perm (HOWN.out.2.2.grew hgr) hl2.symm HP.out _ _
      ·intro g hg
       simp[Value.ownBlock] at hg
       subst hg
       refine⟨.inr ⟨f5,by omega⟩,fun h=>?_,fun e=>?_⟩
       ·have:=hS _ (hS' _ h);omega
       ·simp[Value.ownBlock] at e;exact HNE.out e.symm
      ·intro g hg
       simp[Value.ownBlock] at hg
       subst hg
       refine⟨.inr ⟨f6,by omega⟩,fun h=>?_,by omega,by omega⟩
       have:=hS _ (hS' _ h);omega
     clear h1 h2 HR HW hpl
     go_wp2_with fail
     go_meet
     case rel=>exact HM
 case rest=>
  obtain⟨keys3,l3,vs3,kv3,lv3,hst,hok,hsz,hl3,hlk,hbN,hbR,hkv,hlv,hkd,hk3,hl3b,hgw⟩:=hcut.out
  clear hcut
  obtain⟨a4',c4',rfl,_,_,_⟩:=jT hkv
  obtain⟨a5',c5',rfl,hll,hlc,_⟩:=jT hlv.1
  have hkl3:=hkd.length
  rw[hkl3] at hlv hbN hk3 hl3b
  have HST:=zh hst
  have HOK3:=zh hok
  have HSZ3:=zh hsz
  have HLK:=zh hlk
  have hNN:=HN.out
  rw[hNN] at hbN hbR hl3b
  have HBN:=zh hbN
  have HBR:=zh hbR
  have HKV:=zh hkv
  have HLV:=zh hlv
  have HKD:=zh hkd
  have HK3:=zh hk3
  have HL3:=zh hl3b
  have HGW:=zh hgw
  have HKL3:=zh hkl3
  have d5:=jA hbN 5 _ rfl
  clear hst hok hsz hlk hbN hbR hkv hlv hkd hk3 hl3b hgw hkl3 hll hlc hb1 hb2 hNN hok2 hok3
  go_wp2_with fail
  clear d5
  go_loopw [57] (fun i wr=>∃q:Nat,q≤l3.length∧i=.int .i64 q∧Hid (LoopS wc wr B S' (.slice a5' l3.length c5') l3 q)) (fun i _=>l3.length - (intOf i).toNat)
  case atStart=>
   refine⟨0,Nat.zero_le _,rfl,?_⟩
   exact⟨[],vs3,fun _=>False,S',rfl,HLV.out,by simp[zV,j4],by simpa using HKD.out,fun _ h=>h.elim,fun _ h=>h.elim,fun _ h=>h,Moved.refl _ _⟩
  case round=>
   obtain⟨q,hq,rfl,HW⟩:=hrel
   have HWF:Hid (wr.heap[N]? = some (.cells #[.int .i64 k,.int .i64 n,.int .u64 u,.string s,.slice a4' keys3.length c4',.slice a5' l3.length c5'] 26 (0,0))∧wr.heap[N+1]? = some (.cells #[.int .i64 0,.int .i64 0,.int .u64 0,.string ⟨#[]⟩,.slice none 0 0,.slice none 0 0] 26 (0,0))∧kD wr B (.slice a4' keys3.length c4') keys3):=by
    obtain⟨_,_,_,_,_,_,_,_,_,_,_,hm⟩:=HW.out
    have hS:=HSW.out
    have hS':=HD.out.2.2.2
    have hN:=HN.out
    refine⟨hm.heap HBN.out ?_,hm.heap HBR.out ?_,Moved.owns hm HKV.out ?_⟩
    ·rintro (h|h)
     ·have:=hS _ (hS' _ h);omega
     ·exact (HL3.out _ h).2.2.1 rfl
    ·rintro (h|h)
     ·have:=hS _ (hS' _ h);omega
     ·exact (HL3.out _ h).2.2.2 rfl
    ·rintro g hg (h|h)
     ·exact (HK3.out g hg).2.1 h
     ·exact (HK3.out g hg).2.2 h
   by_cases hlt:q < l3.length
   ·obtain⟨vs1,vs2,S1,S2,hq1,jP,hk1,hk2,hdis,hs1,hs2,hm⟩:=HW.out
    obtain⟨x,hx⟩:∃x,l3[q]? = some x:=⟨_,List.getElem?_eq_getElem hlt⟩
    obtain⟨hx0,hx1⟩:=List.getElem?_eq_some_iff.1 hx
    have hdrop:l3.drop q=x::l3.drop (q+1):=by rw[List.drop_eq_getElem_cons hlt,hx1]
    rw[hdrop] at hk2
    simp only[j4] at hk2
    obtain⟨xv,vr,Sx,Sr,rfl,hSx,hSr,hxr,hox,hkr⟩:=hk2
    have hxm:x∈l3:=List.mem_of_getElem? hx
    obtain⟨gL,rfl⟩:∃g,a5'=some ⟨g,0,none⟩:=by
     rcases jP.1.2 with ⟨e,hn⟩|⟨g,cap,cur,e,_⟩
     ·simp at hn
     ·injection e with e1 _ _;exact⟨g,e1⟩
    have hVl:(vs1++xv::vr).length=l3.length:=by
     obtain⟨_,_,e,_⟩:=jT jP.1
     injection e with _ e2 _
     exact e2.symm
    have hVq:(vs1++xv::vr)[q]? = some xv:=by rw[List.getElem?_append_right (by omega),hq1,Nat.sub_self];rfl
    have h6:=hox.node6
    have hc6:=jP.at hVq
    have kJ:=zh jP
    have HQV:=zh (And.intro hq1 (And.intro hVl hVq))
    have HOX:=zh hox
    have HK12:=zh (And.intro hk1 hkr)
    have HSS:=zh (And.intro hdis (And.intro hs1 (And.intro hs2 (And.intro hSx (And.intro hSr hxr)))))
    have HM:=zh hm
    have HTK:Hid (zV (l3.take (q+1))=zV (l3.take q)++[kB x]):=by
     show _=_
     rw[List.take_add_one,hx,k7,k7,List.map_append];rfl
    have HXZ:=zh (And.intro (HSZ3.out x hxm) (VO HOK3.out hxm))
    clear hq1 hVl hVq jP hox hk1 hkr hdis hs1 hs2 hSx hSr hxr hm hx hx0 hx1 hdrop hxm HW
    obtain⟨yk,yn,yu,ys,ya4,yn4,yc4,ya5,yn5,yc5,rfl⟩:=h6
    obtain⟨e0,e1,e2,e3,e4,e5⟩:=hc6.get
    have d5:=jA HWF.out.1 5 _ rfl
    have yD:(q:Int) < l3.length:=by omega
    clear hc6
    go_wp2_with fail
    have hbs:=heap_alloc_new wr (.cells #[.int .i64 yk,.int .i64 yn,.int .u64 yu,.string ys,.slice ya4 yn4 yc4,.slice ya5 yn5 yc5] 26)
    have hgs:=(jC.refl wr).alloc (.cells #[.int .i64 yk,.int .i64 yn,.int .u64 yu,.string ys,.slice ya4 yn4 yc4,.slice ya5 yn5 yc5] 26)
    generalize (wr.alloc (.cells #[.int .i64 yk,.int .i64 yn,.int .u64 yu,.string ys,.slice ya4 yn4 yc4,.slice ya5 yn5 yc5] 26))=ws at *
    replace d5:=hgs.cell d5
    obtain⟨NB,hNB⟩:∃NB,wr.heap.size=NB:=⟨_,rfl⟩
    rw[hNB] at hbs⊢
    have b0:=jA hbs 0 _ rfl
    have b1:=jA hbs 1 _ rfl
    have b2:=jA hbs 2 _ rfl
    have b3:=jA hbs 3 _ rfl
    have b4:=jA hbs 4 _ rfl
    have b5:=jA hbs 5 _ rfl
    have HGS:=zh (And.intro hgs (And.intro hNB hbs))
    have j8:=zh (kJ.out.grew hgs)
    have HOXS:=zh (HOX.out.grew hgs)
    obtain⟨VV,hVV⟩:∃VV,vs1++.agg #[.int .i64 yk,.int .i64 yn,.int .u64 yu,.string ys,.slice ya4 yn4 yc4,.slice ya5 yn5 yc5]::vr=VV:=⟨_,rfl⟩
    have HVV:=zh hVV
    rw[hVV] at j8
    have HQ2:Hid (q < VV.length∧VV[q]? = some (.agg #[.int .i64 yk,.int .i64 yn,.int .u64 yu,.string ys,.slice ya4 yn4 yc4,.slice ya5 yn5 yc5])):=by
     have:=HQV.out
     rw[hVV] at this
     exact⟨by omega,this.2.2⟩
    have HSB:Hid ((∀g,Sx g→g < wr.heap.size)∧¬Sx gL∧¬Sx N∧¬Sx NB∧gL≠N∧gL≠NB∧gL < wr.heap.size):=by
     have hS:=HSW.out
     have hS':=HD.out.2.2.2
     have hN:=HN.out
     have hL:=HL3.out gL rfl
     have hlt:=(World.ownsRow.lt kJ.out.1 gL rfl).2
     have hsx:∀g,Sx g→g < w.heap.size:=fun g h=>hS _ (hS' _ (HSS.out.2.2.1 _ (HSS.out.2.2.2.1 _ h)))
     have hNw:N < wr.heap.size:=(Array.getElem?_eq_some_iff.1 HWF.out.1).1
     refine⟨fun g h=>?_,fun h=>?_,fun h=>?_,fun h=>?_,hL.2.2.1,by omega,hlt⟩
     ·have:=hsx g h;omega
     ·exact hL.2.1 (HSS.out.2.2.1 _ (HSS.out.2.2.2.1 _ h))
     ·have:=hsx _ h;omega
     ·have:=hsx _ h;omega
    have HGWR:Hid (w.heap.size≤wr.heap.size):=Nat.le_trans HGW.out.size HM.out.size
    clear hVV hbs hgs hNB e0 e1 e2 e3 e4 e5
    have n1:¬(Sx N∨N=gL):=by have h:=HSB.out;rintro (e | e);exact h.2.2.1 e;exact h.2.2.2.2.1 e.symm
    have n2:¬(Sx NB∨NB=gL):=by have h:=HSB.out;rintro (e | e);exact h.2.2.2.1 e;exact h.2.2.2.2.2.1 e.symm
    refine qI (Moved (fun g=>Sx g∨g=gL)) 4 (fun w=>w.heap.size=ws.heap.size∧jW w B x (.agg #[.int .i64 yk,.int .i64 yn,.int .u64 yu,.string ys,.slice ya4 yn4 yc4,.slice ya5 yn5 yc5]) Sx∧kK w B (.slice (some ⟨gL,0,none⟩) l3.length c5') VV) (ZE ws.heap.size B Sx gL l3.length c5' q) [[],[0],[],[],[3],[1,2],[4,5]] [[(64,2),(65,3),(66,4),(67,5)],[(62,0),(64,2),(65,3),(66,4)],[(62,0),(63,1),(65,3),(66,4)],[(62,0),(63,1),(64,2),(67,5)],[(62,0),(63,1),(64,2),(65,3),(67,5)],[(62,0),(63,1),(64,2),(65,3),(66,4)],[(62,0),(63,1),(64,2),(65,3),(66,4),(67,5)]] [(62,0),(63,1),(64,2),(65,3),(66,4),(67,5)]
     [fun y v w=>v=.pointer (some ⟨N,5,none⟩),fun y v w=>v=.slice (some ⟨gL,0,none⟩) l3.length c5',fun y v w=>v=.int .i64 q,fun y v w=>v=.agg #[.int .i64 yk,.int .i64 yn,.int .u64 yu,.string ys,.slice ya4 yn4 yc4,.slice ya5 yn5 yc5],fun y v w=>QG ws.heap.size B Sx gL l3.length c5' q VV x v w,fun y v w=>v=.pointer (some ⟨gL,q*6,none⟩),fun y v w=>ws.heap.size < w.heap.size∧kK w B (.slice (some ⟨gL,0,none⟩) l3.length c5') (VV.set q (y 4))]
     zk Moved.trans' (Moved.refl _) KM (fun _ _=>.inl rfl) (fun i hi w w' ht h=>YB hi ht h) ⟨rfl,HOXS.out.grew (jC.refl _).drew,j8.out.grew (jC.refl _).drew⟩ (Moved.of_grew (jC.refl _).drew) zk
     ⟨fun _ _ _ _ _ _ _ h=>h,fun _ _ _ _ _ _ _ h=>h,fun _ _ _ _ _ _ _ h=>h,fun _ _ _ _ _ _ _ h=>h,fun i hi y v w w' ht h=>QG.step HQ2.out.1 ⟨HSB.out.2.1,Nat.lt_of_lt_of_le HSB.out.2.2.2.2.2.2 HGS.out.1.size⟩ hi ht h,fun _ _ _ _ _ _ _ h=>h,fun i hi y v w w' ht h=>YA hi ht h,trivial⟩
     ⟨fun _ _ _ _ _ h=>h,fun _ _ _ _ _ h=>h,fun _ _ _ _ _ h=>h,fun _ _ _ _ _ h=>h,fun _ _ _ _ _ h=>h,fun _ _ _ _ _ h=>h,fun y y' v w e h=>by have h4:=e 4 (by decide);show ws.heap.size < w.heap.size∧kK w B (.slice (some ⟨gL,0,none⟩) l3.length c5') (VV.set q (y' 4));rw[← h4];exact h,trivial⟩
     ⟨?_,?_,?_,?_,?_,?_,?_,trivial⟩ rfl ?_
    ·intro y w2 hG hI hD K hK
     clear hI
     simp only[jD,Act.put,zq1,zq2,zq3,zq4,zq5] at hK⊢
     refine jF ?_
     go_simp
     exact hK _ _ _ rfl (.inl rfl) rfl
    ·intro y w2 hG hI hD K hK
     simp only[zB,zq4,zq5,and_true] at hD
     have h0:=hD
     clear hD
     clear hI
     simp only[jD,Act.put,zq1,zq2,zq3,zq4,zq5] at hK⊢
     rw[h0] at hK⊢
     clear h0
     refine jF ?_
     have dd:=hG.cell d5 n1
     go_simp
     exact hK _ _ _ rfl (.inl rfl) rfl
    ·intro y w2 hG hI hD K hK
     clear hI
     simp only[jD,Act.put,zq1,zq2,zq3,zq4,zq5] at hK⊢
     refine jF ?_
     go_simp
     exact hK _ _ _ rfl (.inl rfl) rfl
    ·intro y w2 hG hI hD K hK
     clear hI
     simp only[jD,Act.put,zq1,zq2,zq3,zq4,zq5] at hK⊢
     refine jF ?_
     have dd0:=hG.cell b0 n2
     have dd1:=hG.cell b1 n2
     have dd2:=hG.cell b2 n2
     have dd3:=hG.cell b3 n2
     have dd4:=hG.cell b4 n2
     have dd5:=hG.cell b5 n2
     go_simp
     exact hK _ _ _ rfl (.inl rfl) rfl
    ·intro y w2 hG hI hD K hK
     simp only[zB,zq4,zq5,and_true] at hD
     have h3:=hD
     clear hD
     simp only[jD,Act.put,zq1,zq2,zq3,zq4,zq5] at hK⊢
     rw[h3] at hK⊢
     clear h3
     refine jF ?_
     have hI':=hI rfl
     go_simp
     refine (HIH.out x HXZ.out.1 HXZ.out.2 _ w2 B Sx hI'.2.1 (Nat.le_trans HBW.out (Nat.le_trans HGWR.out (Nat.le_trans HGS.out.1.size (Nat.le_of_eq hI'.1.symm)))) (fun g hg=>Nat.lt_of_lt_of_le (HSB.out.1 g hg) (Nat.le_trans HGS.out.1.size (Nat.le_of_eq hI'.1.symm)))).mono ?_
     rintro r w3 ⟨yv,Sy,rfl,ho,hm,hgt,hf⟩
     have hrw:kK w3 B (.slice (some ⟨gL,0,none⟩) l3.length c5') VV:=⟨Moved.owns hm hI'.2.2.1 (fun g hg e=>by simp[Value.ownBlock] at hg;subst hg;exact HSB.out.2.1 e),hI'.2.2.2⟩
     rw[← QF HQ2.out.2] at hrw
     exact hK _ _ _ rfl (.inr (.inl ⟨rfl,hI'.1,hm,hgt⟩)) ⟨by have:=hI'.1;omega,⟨Sy,ho,fun g hg=>(hf g hg).imp id fun h=>⟨by have:=hI'.1;have:=h.1;omega,h.2⟩⟩,_,hrw⟩
    ·intro y w2 hG hI hD K hK
     simp only[zB,zq4,zq5,and_true] at hD
     have h1:=hD.1
     have h2:=hD.2
     clear hD
     clear hI
     simp only[jD,Act.put,zq1,zq2,zq3,zq4,zq5] at hK⊢
     rw[h1,h2] at hK⊢
     clear h1 h2
     refine jF ?_
     go_simp
     exact hK _ _ _ rfl (.inl rfl) rfl
    ·intro y w2 hG hI hD K hK
     simp only[zB,zq4,zq5,and_true] at hD
     have h4:=hD.1
     have h5:=hD.2
     clear hD
     clear hI
     simp only[jD,Act.put,zq1,zq2,zq3,zq4,zq5] at hK⊢
     rw[h5] at hK⊢
     clear h5
     refine jF ?_
     have hd4:=h4
     obtain⟨hW,⟨Sy,ho,hs⟩,z,hz⟩:=hd4
     obtain⟨zk,zn,zu,zs,za4,zn4,zc4,za5,zn5,zc5,hy4⟩:=ho.node6
     rw[hy4] at hK ho⊢
     have hzl:q < (VV.set q z).length:=by rw[List.length_set];exact HQ2.out.1
     have hzq:(VV.set q z)[q]? = some z:=List.getElem?_set_self HQ2.out.1
     obtain⟨z0,z1,z2,z3,z4,z5,e6,cc0,cc1,cc2,cc3,cc4,cc5⟩:=hz.at hzq
     have ff0:=hz.frozen (q*6)
     have ff1:=hz.frozen (q*6+1)
     have ff2:=hz.frozen (q*6+2)
     have ff3:=hz.frozen (q*6+3)
     have ff4:=hz.frozen (q*6+4)
     have ff5:=hz.frozen (q*6+5)
     have hstep:∀vs,q < vs.length→kK w2 B (.slice (some ⟨gL,0,none⟩) l3.length c5') vs→kK _ B (.slice (some ⟨gL,0,none⟩) l3.length c5') (vs.set q _):=fun vs hv h=>kK.stored h hv (x:=.agg #[.int .i64 zk,.int .i64 zn,.int .u64 zu,.string zs,.slice za4 zn4 zc4,.slice za5 zn5 zc5]) ⟨_,_,_,_,_,_,_,_,_,_,rfl⟩ rfl
     have hst2:=hstep _ hzl hz
     rw[List.set_set] at hst2
     have hmv:=vM w2 gL (q*6) (.int .i64 zk) (.int .i64 zn) (.int .u64 zu) (.string zs) (.slice za4 zn4 zc4) (.slice za5 zn5 zc5)
     go_simp
     refine hK _ undef _ rfl (.inr (.inr ⟨rfl,hW,hmv.size,hmv,_,⟨_,_,_,_,_,_,_,_,_,_,rfl⟩,hstep⟩)) ⟨Nat.lt_of_lt_of_le hW hmv.size,?_⟩
     exact hst2
    ·intro y w2 hG hF
     simp only[qT,and_true,Nat.reduceAdd] at hF
     have h0:=hF.1
     have h1:=hF.2.1
     have h2:=hF.2.2.1
     have h3:=hF.2.2.2.1
     have h4:=hF.2.2.2.2.1
     have h5:=hF.2.2.2.2.2.1
     have h6:=hF.2.2.2.2.2.2
     clear hF
     simp only[jD,Act.put,zq1,zq2,zq3,zq4,zq5]
     rw[h0,h1,h2,h3,h5]
     clear h0 h1 h2 h3 h5
     obtain⟨hW,⟨Sy,ho,hs⟩,_⟩:=h4
     have jP:=h6.2
     clear h6
     obtain⟨zk,zn,zu,zs,za4,zn4,zc4,za5,zn5,zc5,hy4⟩:=ho.node6
     rw[hy4] at ho jP⊢
     clear hy4
     have HNX:Hid (LoopS wc w2 B S' (.slice (some ⟨gL,0,none⟩) l3.length c5') l3 (q+1)):=by
      have hv:=HVV.out
      obtain⟨hq1,hVl,hVq⟩:=HQV.out
      obtain⟨hdis,hs1,hs2,hSx,hSr,hxr⟩:=HSS.out
      have hgs:=HGS.out.1
      have hmw:=HM.out
      have hgL:=HL3.out gL rfl
      have hm2:Moved (fun g=>Sx g∨g=gL) wr w2:=(Moved.of_grew hgs).trans' hG
      have hW':w.heap.size≤wr.heap.size:=HGWR.out
      have hwc:wc.heap.size≤wr.heap.size:=hmw.size
      have hS':∀g,S' g→g < wr.heap.size:=fun g h=>by have:=HSW.out _ (HD.out.2.2.2 _ h);omega
      have hS1:∀g,S1 g→g < wr.heap.size:=fun g h=>(hs1 g h).elim (hS' g) (fun h=>h.2)
      have hL1:¬S1 gL:=fun h=>(hs1 _ h).elim hgL.2.1 (fun h=>by have:=(World.ownsRow.lt HLV.out.1 gL rfl).2;have:=h.1;omega)
      have hL2:¬Sr gL:=fun h=>hgL.2.1 (hs2 _ (hSr _ h))
      refine⟨vs1++[.agg #[.int .i64 zk,.int .i64 zn,.int .u64 zu,.string zs,.slice za4 zn4 zc4,.slice za5 zn5 zc5]],vr,fun g=>S1 g∨Sy g,Sr,by rw[List.length_append];simp[hq1],?_,?_,?_,?_,?_,fun g h=>hs2 g (hSr g h),?_⟩
      ·rw[← hv,List.set_append_right _ _ (by omega),hq1,Nat.sub_self,zq2] at jP
       simpa using jP
      ·rw[HTK.out]
       refine j4.app (HK12.out.1.kept hm2 (fun g h e=>?_)) (j4.one ho) (fun g h1 h2=>?_)
       ·rcases e with e|e
        ·exact hdis g h (hSx g e)
        ·subst e;exact hL1 h
       ·rcases hs g h2 with e|e
        ·exact hdis g h1 (hSx g e)
        ·have:=hS1 g h1;have:=hgs.size;have:=e.1;omega
      ·refine HK12.out.2.kept hm2 (fun g h e=>?_)
       rcases e with e|e
       ·exact hxr g e h
       ·subst e;exact hL2 h
      ·rintro g (h|h) h2
       ·exact hdis g h (hSr g h2)
       ·rcases hs g h with e|e
        ·exact hxr g e h2
        ·have:=hS' g (hs2 g (hSr g h2));have:=hgs.size;have:=e.1;omega
      ·rintro g (h|h)
       ·exact (hs1 g h).imp id (fun h=>⟨h.1,Nat.lt_of_lt_of_le h.2 hm2.size⟩)
       ·rcases hs g h with e|e
        ·exact .inl (hs2 g (hSx g e))
        ·exact .inr ⟨by have:=hgs.size;have:=e.1;omega,e.2⟩
      ·refine hmw.trans' (hm2.mono (fun g _ h=>?_))
       rcases h with e|e
       ·exact .inl (hs2 g (hSx g e))
       ·exact .inr (by rw[e];rfl)
     clear hs ho jP hG b0 b1 b2 b3 b4 b5 d5 n1 n2
     go_wp2_with fail
     go_roundw
     case rel=>exact⟨q+1,by omega,by go_num,HNX⟩
     case measure=>simp[intOf];omega
   ·obtain rfl:q=l3.length:=by omega
    have hlN:N+1 < wc.heap.size:=(Array.getElem?_eq_some_iff.1 HBR.out).1
    have hfin:=YR (T:=.mk k n u s keys l) HST.out ⟨HB.out.1,HB.out.2.1,HB.out.2.2.1,HB.out.2.2.2.1⟩ HLK.out HN.out HGW.out HKV.out (fun g hg=>(World.ownsRow.lt HLV.out.1 g hg).2) HK3.out HL3.out HD.out.2.2.2 HSW.out hlN HWF.out.2.1 HWF.out.2.2 HW.out
    have HFIN:=zh hfin
    clear hfin
    have jP:=HWF.out.1
    have jR:=HWF.out.2.1
    have r0:=jB jR 0
    have r1:=jB jR 1
    have r2:=jB jR 2
    have r3:=jB jR 3
    have r4:=jB jR 4
    have r5:=jB jR 5
    have d0:=jA jP 0 _ rfl
    have d1:=jA jP 1 _ rfl
    have d2:=jA jP 2 _ rfl
    have d3:=jA jP 3 _ rfl
    have d4:=jA jP 4 _ rfl
    have d5:=jA jP 5 _ rfl
    have z0:=jA jR 0 _ rfl
    have z1:=jA jR 1 _ rfl
    have z2:=jA jR 2 _ rfl
    have z3:=jA jR 3 _ rfl
    have z4:=jA jR 4 _ rfl
    have z5:=jA jR 5 _ rfl
    clear jP jR HW
    go_wp2_with fail
    refine bodyPost_ret (v:=.agg #[.int .i64 k,.int .i64 n,.int .u64 u,.string s,.slice a4' keys3.length c4',.slice a5' l3.length c5']) (by simp[results,Try.results38,go_sem,z0,z1,z2,z3,z4,z5]) rfl ?_
    obtain⟨S'',hh⟩:=HFIN.out
    exact⟨_,S'',rfl,hh⟩
def Nd (t:Tr) (v:Value) (w:World):Prop:=jL w t v
theorem Nd.st (t:Tr):∀v w w',jC w w'→Nd t v w→Nd t v w':=fun _ _ _ hg h=>jL.grew hg h
def Ss (l:List ByteArray) (v:Value) (w:World):Prop:=kO w v l
theorem Ss.st (l:List ByteArray):∀v w w',jC w w'→Ss l v w→Ss l v w':=fun _ _ _ hg h=>kO.grew h hg
def Rn (ts:List Tr) (v:Value) (w:World):Prop:=∃vs,yT w v vs∧k4 w ts vs
theorem Rn.st (ts:List Tr):∀v w w',jC w w'→Rn ts v w→Rn ts v w':=fun _ _ _ hg ⟨vs,h,k⟩=>⟨vs,h.grew hg,k.grew hg⟩
theorem zU.grew {w w':World} {v:Value} {l:List Int} (h:zU w v l) (hg:jC w w'):zU w' v l:=by
 obtain⟨a,c,h1,h2,h3,h4,h5⟩:=h
 refine⟨a,c,h1,h2,h3,h4,fun i x hx=>?_⟩
 obtain⟨_,b,off,e,hc⟩:=h5 i x hx
 exact⟨trivial,b,off,e,hg.cell hc⟩
theorem kO.form {w:World} {v:Value} {l:List ByteArray} (h:kO w v l):∃a c,v=.slice a l.length c:=by
 obtain⟨a,c,e,_⟩:=h;exact⟨a,c,e⟩
theorem kO.nil (w:World):kO w (.slice none 0 0) []:=⟨none,0,rfl,by simp,by unfold jI;omega,fun _=>rfl,by simp⟩
theorem yT.nil (w:World):yT w (.slice none 0 0) []:=⟨none,0,rfl,by simp,by unfold jI;omega,fun _=>rfl,by simp⟩
theorem zU.nil (w:World):zU w (.slice none 0 0) []:=⟨none,0,rfl,by simp,by unfold jI;omega,fun _=>rfl,by simp⟩
theorem ZG (w:World) (l:List ByteArray) (hz:∀s∈l,jI s.size) (hl:l.length≤4096):Ss l (.slice (some ⟨w.heap.size,0,none⟩) l.length l.length) (w.alloc (.cells (l.map Value.string).toArray 9)):=by
 refine⟨some ⟨w.heap.size,0,none⟩,l.length,rfl,Nat.le_refl _,by unfold jI;omega,fun h=>(by cases h),fun i s hs=>⟨hz s (List.mem_of_getElem? hs),w.heap.size,0,rfl,?_⟩⟩
 rw[cell_of_row _ _ _ _ _ _ (heap_alloc_new _ _)]
 simp[hs]
theorem zC (w:World) (ts:List Tr) (vs:List Value) (h6:∀x∈vs,qX x) (hk:k4 w ts vs) (hl:vs.length≤4096):Rn ts (.slice (some ⟨w.heap.size,0,none⟩) vs.length vs.length) (w.alloc (.cells (vs.flatMap zK).toArray 26)):=by
 refine⟨vs,⟨some ⟨w.heap.size,0,none⟩,vs.length,rfl,Nat.le_refl _,by unfold jI;omega,fun h=>(by cases h),fun i x hx=>⟨w.heap.size,0,rfl,?_⟩⟩,hk.grew ((jC.refl _).alloc _)⟩
 have hr:∀o,(w.alloc (.cells (vs.flatMap zK).toArray 26)).cell? ⟨w.heap.size,o,none⟩=(vs.flatMap zK)[o]? := fun o=>by
  rw[cell_of_row _ _ _ _ _ _ (heap_alloc_new _ _)];simp
 obtain⟨k,n,u,s,a4,n4,c4,a5,n5,c5,rfl⟩:=h6 x (List.mem_of_getElem? hx)
 refine⟨_,_,_,_,_,_,rfl,?_,?_,?_,?_,?_,?_⟩<;>rw[hr,Nat.zero_add]
 ·exact yU h6 hx 0 (by decide)
 ·exact yU h6 hx 1 (by decide)
 ·exact yU h6 hx 2 (by decide)
 ·exact yU h6 hx 3 (by decide)
 ·exact yU h6 hx 4 (by decide)
 ·exact yU h6 hx 5 (by decide)
theorem QJ {keys:List ByteArray} {l:List Tr} {kv lv:Value} {w:World} (h:Ss keys kv w) (h2:Rn l lv w):Nd (.mk 17 0 0 ⟨#[]⟩ keys l) (.agg #[.int .i64 17,.int .i64 0,.int .u64 0,.string ⟨#[]⟩,kv,lv]) w:=by
 obtain⟨vs,h3,h4⟩:=h2
 exact⟨⟨by unfold jQ;omega,by unfold jQ;omega,by unfold j9;omega,by unfold jI;decide⟩,kv,lv,vs,rfl,h,h3,h4⟩
def QK (l:List ByteArray):List Int × Int:=if l.Nodup then ((yC (l.zip (List.range l.length))).map (fun p=>(p.2:Int)),0) else ([],71)
def J8 (w:World) (t:Tr) (r:Ending) (w':World):Prop:=
 jC w w'∧((kL t≠0∧r=.returned (.tuple #[j7,.int .i64 (kL t)]))∨(kL t=0∧∃v S,r=.returned (.tuple #[v,.int .i64 0])∧jW w' w.heap.size (kB t) v S∧∀g,S g→jX w w' g))
theorem VB (t:Tr) (v:Value) (w:World) (hn:jL w t v) (hsz:t.size≤1099511627776):Calls Try.prog 18 #[v] w fun r w'=>J8 w t r w':=by
 have HC:=zh hn
 obtain⟨k,n,u,s,a4,n4,c4,a5,n5,c5,rfl⟩:=hn.node6
 obtain⟨N,hN⟩:∃N,w.heap.size=N:=⟨_,rfl⟩
 go_enter Try.func18,Try.ntmps18
 go_wp2_with fail
 have hb1:=heap_alloc_new w (.cells #[.int .i64 k,.int .i64 n,.int .u64 u,.string s,.slice a4 n4 c4,.slice a5 n5 c5] 26)
 have hg1:=(jC.refl w).alloc (.cells #[.int .i64 k,.int .i64 n,.int .u64 u,.string s,.slice a4 n4 c4,.slice a5 n5 c5] 26)
 have hs1:(w.alloc (.cells #[.int .i64 k,.int .i64 n,.int .u64 u,.string s,.slice a4 n4 c4,.slice a5 n5 c5] 26)).heap.size=w.heap.size+1:=World.size_alloc _ _
 generalize (w.alloc (.cells #[.int .i64 k,.int .i64 n,.int .u64 u,.string s,.slice a4 n4 c4,.slice a5 n5 c5] 26))=w1 at *
 have hb2:=heap_alloc_new w1 (.cells #[.int .i64 0,.int .i64 0,.int .u64 0,.string ⟨#[]⟩,.slice none 0 0,.slice none 0 0] 26)
 have hg2:=(jC.refl w1).alloc (.cells #[.int .i64 0,.int .i64 0,.int .u64 0,.string ⟨#[]⟩,.slice none 0 0,.slice none 0 0] 26)
 rw[hs1,hN] at hb2
 generalize (w1.alloc (.cells #[.int .i64 0,.int .i64 0,.int .u64 0,.string ⟨#[]⟩,.slice none 0 0,.slice none 0 0] 26))=w2 at *
 rw[hN] at hb1
 replace hb1:=hg2.heap hb1
 have hG:=hg1.trans hg2
 have HN:=zh hN
 clear hs1 hg1 hg2 hn hN
 refine (aF t _ _ (HC.out.grew hG) hsz).mono ?_
 rintro r w3 ⟨rfl,hg3⟩
 replace hG:=hG.trans hg3
 replace hb1:=hg3.heap hb1
 replace hb2:=hg3.heap hb2
 clear hg3
 have HG:=zh hG
 have HB:=zh (And.intro hb1 hb2)
 clear hG
 have d0:=jA hb1 0 _ rfl
 have d1:=jA hb1 1 _ rfl
 have d2:=jA hb1 2 _ rfl
 have d3:=jA hb1 3 _ rfl
 have d4:=jA hb1 4 _ rfl
 have d5:=jA hb1 5 _ rfl
 have z0:=jA hb2 0 _ rfl
 have z1:=jA hb2 1 _ rfl
 have z2:=jA hb2 2 _ rfl
 have z3:=jA hb2 3 _ rfl
 have z4:=jA hb2 4 _ rfl
 have z5:=jA hb2 5 _ rfl
 have f0:=jB hb2 0
 have f1:=jB hb2 1
 have f2:=jB hb2 2
 have f3:=jB hb2 3
 have f4:=jB hb2 4
 have f5:=jB hb2 5
 clear hb1 hb2
 obtain⟨e,he⟩:∃e,kL t=e:=⟨_,rfl⟩
 have HE:=zh he
 rw[he]
 by_cases h0:e=0
 ·subst h0
  have hok:=Z8 he
  have HOK:=zh hok
  clear he hok
  go_wp2_with fail
  refine (YN t.size t (Nat.le_refl _) _ _ (HC.out.grew HG.out) (VP HOK.out.1)).mono ?_
  rintro r w4 ⟨v4,rfl,ho4,hg4⟩
  have HO4:=zh ho4
  have HG4:=zh hg4
  obtain⟨k',n',u',s',a4',n4',c4',a5',n5',c5',rfl⟩:=ho4.node6
  clear ho4 hg4 z0 z1 z2 z3 z4 z5 f0 f1 f2 f3 f4 f5
  go_wp2_with fail
  refine (QI t.size t (Nat.le_refl _) HOK.out.1 _ w4 w3.heap.size _ HO4.out HG4.out.size (fun g hg=>hg.2)).mono ?_
  rintro r w5 ⟨v5,S5,rfl,ho5,hm5,hz5,hf5⟩
  have hg5:jC w3 w5:=Moved.fresh HG4.out hm5 (fun g hg=>hg.1)
  obtain⟨k5,n5',u5,s5,a45,n45,c45,a55,n55,c55,rfl⟩:=ho5.node6
  have hb1:=hg5.heap HB.out.1
  have hb2:=hg5.heap HB.out.2
  have z0:=jA hb2 0 _ rfl
  have z1:=jA hb2 1 _ rfl
  have z2:=jA hb2 2 _ rfl
  have z3:=jA hb2 3 _ rfl
  have z4:=jA hb2 4 _ rfl
  have z5:=jA hb2 5 _ rfl
  have f0:=jB hb2 0
  have f1:=jB hb2 1
  have f2:=jB hb2 2
  have f3:=jB hb2 3
  have f4:=jB hb2 4
  have f5:=jB hb2 5
  have HFIN:Hid (J8 w t (.returned (.tuple #[.agg #[.int .i64 k5,.int .i64 n5',.int .u64 u5,.string s5,.slice a45 n45 c45,.slice a55 n55 c55],.int .i64 0])) (jH w5 (N+1) (.int .i64 k5) (.int .i64 n5') (.int .u64 u5) (.string s5) (.slice a45 n45 c45) (.slice a55 n55 c55))):=by
   have hN:=HN.out
   have h3:N+1 < w3.heap.size:=(Array.getElem?_eq_some_iff.1 HB.out.2).1
   have h4:=HG4.out.size
   have hT:Moved (fun k=>k=N+1) w5 (jH w5 (N+1) (.int .i64 k5) (.int .i64 n5') (.int .u64 u5) (.string s5) (.slice a45 n45 c45) (.slice a55 n55 c55)):=kC w5 (N+1) (.int .i64 k5) (.int .i64 n5') (.int .u64 u5) (.string s5) (.slice a45 n45 c45) (.slice a55 n55 c55)
   have hsz:=hT.size
   refine⟨Moved.fresh (HG.out.trans hg5) hT (fun g e=>by omega),.inr ⟨HE.out,_,S5,rfl,(ho5.kept hT (fun g hg e=>?_)).base HG.out.size,fun g hg=>?_⟩⟩
   ·rcases hf5 g hg with h|h
    ·have:=h.1;omega
    ·have:=h.1;omega
   ·have h6:=HG.out.size
    rcases hf5 g hg with h|h
    ·exact⟨by have:=h.1;omega,by have:=h.2;omega⟩
    ·exact⟨by have:=h.1;omega,by have:=h.2;omega⟩
  clear hb1 hb2 ho5 hm5 hz5 hf5 hg5
  go_wp2_with fail
  refine bodyPost_ret (v:=.tuple #[.agg #[.int .i64 k5,.int .i64 n5',.int .u64 u5,.string s5,.slice a45 n45 c45,.slice a55 n55 c55],.int .i64 0]) (by simp[results,Try.results18,go_sem,z0,z1,z2,z3,z4,z5]) rfl ?_
  exact HFIN.out
 ·have hb:(e == 0)=false:=by simpa using h0
  have H0:=zh h0
  clear he h0
  have HFIN:Hid (J8 w t (.returned (.tuple #[.agg #[.int .i64 0,.int .i64 0,.int .u64 0,.string ⟨#[]⟩,.slice none 0 0,.slice none 0 0],.int .i64 e])) (jH w3 (N+1) (.int .i64 0) (.int .i64 0) (.int .u64 0) (.string ⟨#[]⟩) (.slice none 0 0) (.slice none 0 0))):=by
   have hN:=HN.out
   have hT:=kC w3 (N+1) (.int .i64 0) (.int .i64 0) (.int .u64 0) (.string ⟨#[]⟩) (.slice none 0 0) (.slice none 0 0)
   exact⟨Moved.fresh HG.out hT (fun g e=>by omega),.inl ⟨by rw[HE.out];exact H0.out,by rw[HE.out];rfl⟩⟩
  go_wp2_with fail
  refine bodyPost_ret (v:=.tuple #[.agg #[.int .i64 0,.int .i64 0,.int .u64 0,.string ⟨#[]⟩,.slice none 0 0,.slice none 0 0],.int .i64 e]) (by simp[results,Try.results18,go_sem,z0,z1,z2,z3,z4,z5]) rfl ?_
  exact HFIN.out
theorem aH {t:Tr} (h:jJ t=true):1≤t.kind∧t.kind≤17:=by
 cases t
 simp only[jJ,Bool.and_eq_true,decide_eq_true_eq] at h
 exact h.1.1.1.1.1.1.1.1
mutual
def qG (b:Nat):Tr→Prop | .mk k n u s keys l=>b < 64∧jJ (.mk k n u s keys l)=true∧kU (.mk k n u s keys l)=0∧Z0 (b+1) l
def Z0 (b:Nat):List Tr→Prop | []=>True | t::r=>qG b t∧Z0 b r
end
theorem valL_iff {b:Nat}:∀{l:List Tr},Z0 b l↔∀x∈l,qG b x
 | []=>by simp[Z0]
 | t::r=>by simp[Z0,valL_iff (l:=r)]
mutual
theorem val_pre {b:Nat}:∀{t:Tr},qG b t↔∀p∈qP b t,p.1 < 64∧jJ p.2=true∧kU p.2=0
 | .mk k n u s keys l=>by
  simp only[qG,qP,List.mem_cons,forall_eq_or_imp]
  rw[QL (b:=b+1) (l:=l)]
  exact⟨fun h=>⟨⟨h.1,h.2.1,h.2.2.1⟩,h.2.2.2⟩,fun h=>⟨h.1.1,h.1.2.1,h.1.2.2,h.2⟩⟩
theorem QL {b:Nat}:∀{l:List Tr},Z0 b l↔∀p∈y6 b l,p.1 < 64∧jJ p.2=true∧kU p.2=0
 | []=>by simp[Z0,y6]
 | t::r=>by
  simp only[Z0,y6,List.mem_append]
  rw[val_pre (t:=t),QL (l:=r)]
  exact⟨fun h p hp=>hp.elim (h.1 p) (h.2 p),fun h=>⟨fun p hp=>h p (.inl hp),fun p hp=>h p (.inr hp)⟩⟩
end
theorem YE:∀(ps:List (Nat × Tr)) (c:Nat),c+ps.length≤4096→(∀p∈ps,p.1 < 64∧jJ p.2=true∧kU p.2=0)→yZ c ps=0
 | [],_,_,_=>rfl
 | (b,x)::r,c,hc,h=>by
  have h0:=h (b,x) (by simp)
  simp only[List.length_cons] at hc
  simp only[yZ]
  rw[if_neg (by omega),if_neg (by have:=h0.1;simp only at this;omega),if_neg (by have:=h0.2.1;simp only at this;rw[this];decide),if_neg (by have:=h0.2.2;simp only at this;rw[this];simp)]
  exact YE r (c+1) (by omega) (fun p hp=>h p (by simp[hp]))
theorem check_val {t:Tr}:kL t=0↔t.size≤4096∧qG 0 t:=by
 constructor
 ·intro h
  obtain⟨h1,h2⟩:=vF _ 0 h
  refine⟨(Z8 h).2,val_pre.2 fun p hp=>h2 p hp⟩
 ·rintro ⟨h1,h2⟩
  refine YE _ 0 (by rw[vD];omega) (val_pre.1 h2)
theorem YF {s:ByteArray} (h:s.toList=[]):s=⟨#[]⟩:=by
 have h2:(s.toList == (⟨#[]⟩:ByteArray).toList)=true:=by rw[h];decide +kernel
 rw[qL] at h2
 exact of_decide_eq_true h2
theorem YG:∀(l had:List ByteArray),kH had l=0↔(∀k∈l,zF k=false∧k∉had)∧l.Nodup
 | [],had=>by simp[kH]
 | k::r,had=>by
  simp only[kH]
  by_cases h1:zF k=true
  ·rw[if_pos h1]
   refine⟨fun h=>absurd h (by decide),fun h=>?_⟩
   have:=(h.1 k (by simp)).1
   rw[h1] at this;cases this
  ·rw[if_neg h1]
   by_cases h2:zZ k had=true
   ·rw[if_pos h2]
    refine⟨fun h=>absurd h (by decide),fun h=>?_⟩
    exact absurd ((vI k had).1 h2) (h.1 k (by simp)).2
   ·rw[if_neg h2,YG r (had++[k])]
    have h2':k∉had:=fun h=>h2 ((vI k had).2 h)
    have h1':zF k=false:=by simpa using h1
    constructor
    ·rintro ⟨h3,h4⟩
     refine⟨fun q hq=>?_,List.nodup_cons.2 ⟨fun hk=>?_,h4⟩⟩
     ·rcases List.mem_cons.1 hq with rfl|hq
      ·exact⟨h1',h2'⟩
      ·exact⟨(h3 q hq).1,fun h=>(h3 q hq).2 (by simp[h])⟩
     ·exact (h3 k hk).2 (by simp)
    ·rintro ⟨h3,h4⟩
     obtain⟨h5,h6⟩:=List.nodup_cons.1 h4
     refine⟨fun q hq=>⟨(h3 q (by simp[hq])).1,fun h=>?_⟩,h6⟩
     rcases List.mem_append.1 h with h|h
     ·exact (h3 q (by simp[hq])).2 h
     ·simp at h;subst h;exact h5 hq
theorem VC {l m:List ByteArray} (h:l.Perm m) (hl:kH [] l=0):kH [] m=0:=by
 rw[YG] at hl⊢
 exact⟨fun k hk=>hl.1 k (h.mem_iff.2 hk),h.nodup_iff.1 hl.2⟩
theorem bG {b:Nat} {k n u:Int} {s:ByteArray} {keys:List ByteArray} {l:List Tr} (h:qG b (.mk k n u s keys l)) :
 (1≤k∧k≤17)∧(k≤9→l=[])∧(k≠17→keys=[])∧(k=17→keys.Nodup∧keys.length=l.length) ∧
 (k≠2→k≠3→k≠8→n=0)∧(k≠4→k≠9→u=0)∧(k≠5→k≠6→k≠7→s=⟨#[]⟩):=by
 obtain⟨h1,h2,h3,h4⟩:=h
 have hk:=bA h2 h3
 have qH:=valL_iff.1 h4
 simp only[jJ,Bool.and_eq_true,decide_eq_true_eq,Bool.or_eq_true,Bool.not_eq_true'] at h2
 obtain⟨⟨⟨⟨⟨⟨⟨⟨h17,hn⟩,hu⟩,hs⟩,hky⟩,_⟩,_⟩,_⟩,hoth⟩:=h2
 refine⟨h17,fun h9=>?_,hk.2,hk.1,fun a b c=>?_,fun a b=>?_,fun a b c=>?_⟩
 ·cases l with
  | nil=>rfl
  | cons x r=>
   exfalso
   have hx:=qH x (by simp)
   have hxk:1≤x.kind:=by
    cases x
    obtain⟨_,hx2,_⟩:=hx
    exact (aH hx2).1
   have hp:kR k = -1:=by
    have:k=1∨k=2∨k=3∨k=4∨k=5∨k=6∨k=7∨k=8∨k=9:=by omega
    rcases this with e|e|e|e|e|e|e|e|e<;>(subst e;decide)
   rw[List.any_cons,Bool.or_eq_false_iff] at hoth
   have:=hoth.1
   rw[hp] at this
   simp[jS] at this
   omega
 ·rcases hn with h|h
  ·exfalso
   have:k=1∨k=4∨k=5∨k=6∨k=7∨k=9∨k=10∨k=11∨k=12∨k=13∨k=14∨k=15∨k=16∨k=17:=by omega
   rcases this with e|e|e|e|e|e|e|e|e|e|e|e|e|e<;>(subst e;revert h;decide)
  ·exact h
 ·rcases hu with h|h
  ·exfalso
   have:k=1∨k=2∨k=3∨k=5∨k=6∨k=7∨k=8∨k=10∨k=11∨k=12∨k=13∨k=14∨k=15∨k=16∨k=17:=by omega
   rcases this with e|e|e|e|e|e|e|e|e|e|e|e|e|e|e<;>(subst e;revert h;decide)
  ·exact h
 ·rcases hs with h|h
  ·exfalso
   have:k=1∨k=2∨k=3∨k=4∨k=8∨k=9∨k=10∨k=11∨k=12∨k=13∨k=14∨k=15∨k=16∨k=17:=by omega
   rcases this with e|e|e|e|e|e|e|e|e|e|e|e|e|e<;>(subst e;revert h;decide)
  ·exact YF h
theorem VS:∀(m:Nat) (t:Tr) (b:Nat),t.size≤m→t.size≤4096→qG b t→Few t:=by
 intro m
 induction m with
 | zero=>intro t b h;have:=t.size_pos;omega
 | succ m ih=>
  intro t b h hz hv
  obtain⟨k,n,u,s,keys,l⟩:=t
  obtain⟨_,_,h3,h4,_⟩:=bG hv
  simp only[Tr.size] at h hz
  have hl:=yM l
  have kP:ZU l:=by
   have qH:=valL_iff.1 hv.2.2.2
   have:∀q:List Tr,(∀x∈q,x∈l)→ZU q:=by
    intro q
    induction q with
    | nil=>intro _;trivial
    | cons x r ihr=>intro hs;exact⟨ih x (b+1) (by have:=k9 (hs x (by simp));omega) (by have:=k9 (hs x (by simp));omega) (qH x (hs x (by simp))),ihr fun y hy=>hs y (by simp[hy])⟩
   exact this l fun _ h=>h
  refine⟨?_,by omega,kP⟩
  by_cases e:k=17
  ·have:=(h4 e).2;omega
  ·rw[h3 e];simp
theorem such_iff {k n u:Int} {s:ByteArray} {keys:List ByteArray} {l:List Tr}:jJ (.mk k n u s keys l)=true ↔
 (1≤k∧k≤17)∧(jK k=1∨n=0)∧(jK k=2∨u=0)∧(jK k=4∨s.toList=[])∧(jK k=8∨keys.length=0)∧(k=2→n=0∨n=1)∧(k=17→keys.length=l.length)∧(k=15∨k=16→2≤l.length∧l.length≤4)∧∀x∈l,jS (kR k) x=false:=by
 simp only[jJ,Bool.and_eq_true,decide_eq_true_eq,Bool.or_eq_true,Bool.not_eq_true',decide_eq_false_iff_not,List.any_eq_false,Bool.not_eq_true,Bool.or_eq_false_iff]
 constructor
 ·rintro ⟨⟨⟨⟨⟨⟨⟨⟨h1,h2⟩,h3⟩,h4⟩,h5⟩,h6⟩,h7⟩,h8⟩,h9⟩
  exact⟨h1,h2,h3,h4,h5,by omega,by omega,by omega,h9⟩
 ·rintro ⟨h1,h2,h3,h4,h5,h6,h7,h8,h9⟩
  exact⟨⟨⟨⟨⟨⟨⟨⟨h1,h2⟩,h3⟩,h4⟩,h5⟩,by omega⟩,by omega⟩,by omega⟩,h9⟩
theorem keyed_iff {k n u:Int} {s:ByteArray} {keys:List ByteArray} {l:List Tr}:kU (.mk k n u s keys l)=0↔¬(k=5∧zF s=true)∧kH [] keys=0:=by
 simp only[kU]
 by_cases h:k=5∧zF s=true
 ·rw[if_pos h];simp[h]
 ·rw[if_neg h];simp[h]
theorem aI (t:Tr):(kB t).kind=t.kind:=by
 cases t
 simp only[kB]
 split<;>rfl
theorem VD {p:Int} {x y:Tr} (h:x.kind=y.kind):jS p x=jS p y:=by simp[jS,h]
theorem zip_fst {α β:Type}:∀{a:List α} {b:List β},a.length=b.length→(a.zip b).map Prod.fst=a:=fun h=>List.map_fst_zip (by omega)
theorem zip_snd {α β:Type}:∀{a:List α} {b:List β},a.length=b.length→(a.zip b).map Prod.snd=b:=fun h=>List.map_snd_zip (by omega)
theorem VE {a b:List Tr} (hp:a.Perm b):kI a=kI b:=by
 induction hp with
 | nil=>rfl
 | cons x _ ih=>simp only[kI,ih]
 | swap x y l=>simp only[kI];omega
 | trans _ _ h1 h2=>exact h1.trans h2
theorem YH {f:Tr→Tr}:∀{l:List Tr},(∀x∈l,(f x).size=x.size)→kI (l.map f)=kI l
 | [],_=>rfl
 | t::r,h=>by simp only[List.map_cons,kI];rw[h t (by simp),YH (l:=r) fun x hx=>h x (by simp[hx])]
theorem ZH:∀(m:Nat) (t:Tr) (b:Nat),t.size≤m→qG b t→qG b (kB t)∧(kB t).size=t.size:=by
 intro m
 induction m with
 | zero=>intro t b h;have:=t.size_pos;omega
 | succ m ih=>
  intro t b h hv
  obtain⟨k,n,u,s,keys,l⟩:=t
  simp only[Tr.size] at h
  have qH:=valL_iff.1 hv.2.2.2
  have hk:∀x∈l,qG (b+1) (kB x)∧(kB x).size=x.size:=fun x hx=>ih x (b+1) (by have:=k9 hx;omega) (qH x hx)
  obtain⟨h1,h2,h3,_⟩:=hv
  rw[such_iff] at h2
  rw[keyed_iff] at h3
  obtain⟨s1,s2,s3,s4,s5,s6,s7,s8,s9⟩:=h2
  have hsz:kI (l.map kB)=kI l:=YH fun x hx=>(hk x hx).2
  simp only[kB]
  by_cases e:k=17
  ·rw[if_pos e]
   have kV:=s7 e
   have hp:=yF (keys.zip (zV l))
   have hl2:keys.length=(zV l).length:=by rw[k7,List.length_map];exact kV
   have hp1:=hp.map Prod.fst
   have hp2:=hp.map Prod.snd
   rw[zip_fst hl2] at hp1
   rw[zip_snd hl2] at hp2
   refine⟨⟨h1,such_iff.2 ⟨s1,s2,s3,s4,s5.imp id (fun h=>by rw[hp1.length_eq,h]),s6,fun _=>by rw[List.length_map,List.length_map],fun h=>by omega,fun x hx=>?_⟩,keyed_iff.2 ⟨h3.1,VC hp1.symm h3.2⟩,valL_iff.2 fun x hx=>?_⟩,?_⟩
   ·subst e;simp[kR,jS]
   ·rw[hp2.mem_iff,k7,List.mem_map] at hx
    obtain⟨y,hy,rfl⟩:=hx
    exact (hk y hy).1
   ·simp only[Tr.size];rw[VE hp2,k7,hsz]
  ·rw[if_neg e,k7]
   refine⟨⟨h1,such_iff.2 ⟨s1,s2,s3,s4,s5,s6,fun h=>absurd h e,by rw[List.length_map];exact s8,fun x hx=>?_⟩,keyed_iff.2 h3,valL_iff.2 fun x hx=>?_⟩,?_⟩
   ·obtain⟨y,hy,rfl⟩:=List.mem_map.1 hx
    rw[VD (aI y)];exact s9 y hy
   ·obtain⟨y,hy,rfl⟩:=List.mem_map.1 hx
    exact (hk y hy).1
   ·simp only[Tr.size,hsz]
end Go.Proofs.Ytfbeepkogcmlmaa
namespace Go.Proofs.Ytfbeepkogcmlmaa
open Go Go.ChangeShapes Go.WideShapes Go.ChangeAt Go.RowKit Go.Joins Go.Deep
open Go.ChangeMaps (open_string shut_string)
end Go.Proofs.Ytfbeepkogcmlmaa
namespace Go.Proofs.Ytfbeepkogcmlmaa
open Go Go.ChangeShapes Go.WideShapes Go.ChangeAt Go.RowKit Go.Joins Go.Deep
end Go.Proofs.Ytfbeepkogcmlmaa
