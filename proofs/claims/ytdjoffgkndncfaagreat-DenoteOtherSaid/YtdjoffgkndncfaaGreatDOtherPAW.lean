/-Texts-/
import Derived.Test.YtdjoffgkndncfaaGreatDOtherPAV
import Derived.StillTailTactics
import Derived.Deep.DeepCutAuto
import Derived.Deep.CutBlock
set_option linter.unusedVariables false
set_option linter.unusedSimpArgs false
set_option maxHeartbeats 16000000
set_option maxRecDepth 100000
namespace Go.Proofs.YtdjoffgkndncfaaGreat
open Go.Proofs.Tryz
open Go Go.ChangeShapes Go.WideShapes Go.ChangeAt Go.RowKit Go.Joins Go.Deep
variable {w w':World} {B g n W gL c q i b:Nat} {Sx S:Nat→Prop} {vs VV:List Value} {x t:Tr} {y kv lv:Value} {P0 P1 Q0 Q1:World→Prop} {k u:Int} {s:ByteArray} {keys:List ByteArray} {l:List Tr}
theorem made6:∀n:Nat,(madeCells #[.int .i64 0,.int .i64 0,.int .u64 0,.string ⟨#[]⟩,.slice none 0 0,.slice none 0 0] (n*6)).toList=(List.replicate n zC).flatMap vO
 | 0=>by simp[madeCells]
 | n+1=>by
  have ih:=made6 n;rw[List.replicate_succ',yg,← ih];have e:(n+1)*6=n*6+1+1+1+1+1+1:=by omega
  simp only[madeCells,Array.toList_map,Array.toList_range,e,List.range_succ,xb,List.map_cons,List.map_nil,qe];congr 1;have m0:n*6 % 6=0:=by omega
  have m1:(n*6+1) % 6=1:=by omega
  have m2:(n*6+1+1) % 6=2:=by omega
  have m3:(n*6+1+1+1) % 6=3:=by omega
  have m4:(n*6+1+1+1+1) % 6=4:=by omega
  have m5:(n*6+1+1+1+1+1) % 6=5:=by omega
  simp[zC,vO,m0,m1,m2,m3,m4,m5]
theorem lZ (n:Nat) (hn:n≤4096) (w:World) :
 (Instr.makeSlice 24 (.int .i64 (n:Int)) (.int .i64 (n:Int))).run prog w=.ok (.slice (some ⟨w.heap.size,0,none⟩) n n) (w.alloc (.cells (madeCells #[.int .i64 0,.int .i64 0,.int .u64 0,.string ⟨#[]⟩,.slice none 0 0,.slice none 0 0] (n*6)) 26)):=by
 obtain⟨i0,h1,h2,h3,h4⟩:=cJ;have h:=run_make (P:=prog) w 24 26 i0 zC underlying24 h1 h2 .i64 .i64 n n zo zo (by rw[h4];omega) zo;rw[h3] at h;simp only[Int.toNat_natCast] at h;exact h
theorem oC (n:Nat) (hn:n≤4096) (w:World) :
 (Instr.makeSlice 23 (.int .i64 (n:Int)) (.int .i64 (n:Int))).run prog w=.ok (.slice (some ⟨w.heap.size,0,none⟩) n n) (w.alloc (.cells (madeCells #[.string ⟨#[]⟩] n) 9)):=
 run_make_row' (P:=prog) 23 9 (.string ⟨#[]⟩) 16 underlying23 Tryz.infoStr rfl .i64 .i64 n zo zo w
theorem l4 (hn:n≤4096) (hB:B≤g) (h:w.heap[g]? = some (.cells (madeCells #[.int .i64 0,.int .i64 0,.int .u64 0,.string ⟨#[]⟩,.slice none 0 0,.slice none 0 0] (n*6)) 26 (0,0))) :
 yM w B (.slice (some ⟨g,0,none⟩) n n) (List.replicate n zC):=by
 have hl:((List.replicate n zC).flatMap vO).length=n*6:=by rw[← made6,Array.length_toList,size_madeCells]
 refine⟨⟨by simpa using hl,.inr ⟨g,n,_,by simp,hB,h,by simp,by unfold maxLen;omega,size_madeCells _ _,?_⟩⟩,λx hx=>?_⟩
 ·rw[List.length_replicate,made6,List.take_of_length_le zo]
 obtain⟨_,rfl⟩:=List.mem_replicate.1 hx;exact⟨_,_,_,_,_,_,_,_,_,_,rfl⟩
theorem oD (hn:n≤4096) (hB:B≤g) (h:w.heap[g]? = some (.cells (madeCells #[.string ⟨#[]⟩] n) 9 (0,0))) :
 zG w B (.slice (some ⟨g,0,none⟩) n n) (List.replicate n ⟨#[]⟩):=by
 unfold zG;refine⟨by simp,.inr ⟨g,n,_,by simp,hB,h,by simp,by unfold maxLen;omega,by rw[size_madeCells];omega,?_⟩⟩;rw[List.length_replicate,toList_madeCells_one,List.take_of_length_le zp2];simp
theorem pE (w:World) (g o:Nat) (a b c d e f:Value):Moved (λk=>k=g) w ((((((w.setCell ⟨g,o,none⟩ a).setCell ⟨g,o+1,none⟩ b).setCell ⟨g,o+2,none⟩ c).setCell ⟨g,o+3,none⟩ d).setCell ⟨g,o+4,none⟩ e).setCell ⟨g,o+5,none⟩ f):=
 Moved.setCell (S:=λk=>k=g) (p:=⟨g,o+5,none⟩) (Moved.setCell (S:=λk=>k=g) (p:=⟨g,o+4,none⟩) (Moved.setCell (S:=λk=>k=g) (p:=⟨g,o+3,none⟩) (Moved.setCell (S:=λk=>k=g) (p:=⟨g,o+2,none⟩) (Moved.setCell (S:=λk=>k=g) (p:=⟨g,o+1,none⟩) (Moved.setCell (S:=λk=>k=g) (p:=⟨g,o,none⟩) (Moved.refl _ w) (λ_=>rfl) _) (λ_=>rfl) _) (λ_=>rfl) _) (λ_=>rfl) _) (λ_=>rfl) _) (λ_=>rfl) _
theorem DK:∀{l:List Tr},(∀x∈l,okT x)→okL l
 | [],_=>trivial
 | t::r,h=>by
  simp only[okL];exact⟨h t zp2,DK λx hx=>h x oL⟩
def u9q (W B:Nat) (Sx:Nat→Prop) (gL n c q:Nat) (i:Nat) (w w':World):Prop:=
 w=w'∨(i=4∧w.heap.size=W∧Moved Sx w w'∧w.heap.size < w'.heap.size) ∨
 (i=6∧W < w.heap.size∧w.heap.size≤w'.heap.size∧Moved (λg=>g=gL) w w'∧∃y,QV y∧∀vs,q < vs.length→yM w B (.slice (some ⟨gL,0,none⟩) n c) vs→yM w' B (.slice (some ⟨gL,0,none⟩) n c) (vs.set q y))
theorem wE (i:Nat) (w w':World) (h:u9q W B Sx gL n c q i w w'):Moved (λg=>Sx g∨g=gL) w w':=by
 rcases h with rfl|⟨_,_,hm,_⟩|⟨_,_,_,hm,_⟩
 ·exact Moved.refl _ _
 ·exact hm.mono (λ_ _ h=>.inl h)
 exact hm.mono (λ_ _ h=>.inr h)
theorem LM {x:Value} (h:vs[q]? = some x):vs.set q x=vs:=by
 apply List.ext_getElem?;intro i;rw[List.getElem?_set];split
 ·rename_i e;subst e;split
  ·exact h.symm
  rename_i hn;rw[List.getElem?_eq_none zo]
 rfl
theorem EW (hi:i≠6) (ht:u9q W B Sx gL n c q i w w') (h:W < w.heap.size∧yM w B (.slice (some ⟨gL,0,none⟩) n c) (VV.set q y)):W < w'.heap.size∧yM w' B (.slice (some ⟨gL,0,none⟩) n c) (VV.set q y):=by
 rcases ht with rfl|⟨_,e,_⟩|⟨e,_⟩
 ·exact h
 ·omega
 exact absurd e hi
theorem EX {xv:Value} (hi:i≠4) (ht:u9q W B Sx gL n c q i w w') (h:w.heap.size=W∧qA w B x xv Sx∧yM w B (.slice (some ⟨gL,0,none⟩) n c) VV):w'.heap.size=W∧qA w' B x xv Sx∧yM w' B (.slice (some ⟨gL,0,none⟩) n c) VV:=by
 rcases ht with rfl|⟨e,_⟩|⟨_,e,_⟩
 ·exact h
 ·exact absurd e hi
 omega
def wF (W B:Nat) (Sx:Nat→Prop) (gL n c q:Nat) (VV:List Value) (x:Tr) (y:Value) (w:World):Prop:=
 W < w.heap.size∧(∃Sy,qA w B (zP x) y Sy∧∀g,Sy g→Sx g∨(W≤g∧g < w.heap.size))∧∃z,yM w B (.slice (some ⟨gL,0,none⟩) n c) (VV.set q z)
theorem wF.step (hq:q < VV.length) (hL:¬Sx gL∧gL < W) (hi:i≠4) (ht:u9q W B Sx gL n c q i w w') (h:wF W B Sx gL n c q VV x y w):wF W B Sx gL n c q VV x y w':=by
 rcases ht with rfl|⟨e,_⟩|⟨_,hW,hsz,hm,u,hu,hst⟩
 ·exact h
 ·exact absurd e hi
 obtain⟨h1,⟨Sy,ho,hs⟩,z,hz⟩:=h;refine⟨by omega,⟨Sy,ho.kept hm (λg hg e=>?_),λg hg=>(hs g hg).imp id λh=>⟨h.1,by omega⟩⟩,u,?_⟩
 ·subst e;rcases hs _ hg with h|h
  ·exact hL.1 h
  omega
 have:=hst _ (by rw[yf];exact hq) hz
 rwa [List.set_set] at this
def LoopS (wc wr:World) (B:Nat) (S':Nat→Prop) (lv:Value) (l:List Tr) (q:Nat):Prop:=
 ∃vs1 vs2 S1 S2,vs1.length=q∧yM wr B lv (vs1++vs2)∧zH wr B (ZK (l.take q)) vs1 S1∧zH wr B (l.drop q) vs2 S2∧(∀g,S1 g→¬S2 g)∧(∀g,S1 g→S' g∨JB wc wr g)∧(∀g,S2 g→S' g) ∧
  Moved (λg=>S' g∨lv.ownBlock=some g) wc wr
structure V6 (S:Nat→Prop) (P0 P1 Q0 Q1:World→Prop) (w w':World):Prop where
 moved:Moved S w w'
 p1:P1 w→P1 w'
 p0:P0 w∨P1 w→P0 w'∨P1 w'
 q1:Q1 w→Q1 w'
 q0:Q0 w∨Q1 w→Q0 w'∨Q1 w'
theorem V6.refl (w:World):V6 S P0 P1 Q0 Q1 w w:=⟨Moved.refl _ _,id,id,id,id⟩
theorem V6.trans {a b c:World} (h:V6 S P0 P1 Q0 Q1 a b) (k:V6 S P0 P1 Q0 Q1 b c):V6 S P0 P1 Q0 Q1 a c:=
 ⟨h.moved.trans' k.moved,λx=>k.p1 (h.p1 x),λx=>k.p0 (h.p0 x),λx=>k.q1 (h.q1 x),λx=>k.q0 (h.q0 x)⟩
def J0 {α:Type} {n:Nat} (p:List (Fin n)) (f:Nat→α) (z:α) (q:Nat):List α:=(p.take q).map (λx=>f x.1)++List.replicate (n - q) z
section
variable {α:Type} {n:Nat} {p:List (Fin n)} {f:Nat→α} {z:α}
theorem l6:J0 p f z 0=List.replicate n z:=by simp[J0]
theorem EY (hp:p.length=n):J0 p f z n=p.map λx=>f x.1:=by
 unfold J0;rw[List.take_of_length_le zo];simp
theorem dY (hp:p.length=n) {q:Nat} (hq:q≤n):(J0 p f z q).length=n:=by simp[J0,hp];omega
theorem pF (hp:p.length=n) {q:Nat} (hq:q < n):(J0 p f z q)[q]? = some z:=by
 have:(p.take q).length=q:=by rw[qr];omega
 unfold J0;rw[qs zp9,qb,this,yj,List.getElem?_replicate,zl zo]
theorem pG (hp:p.length=n) {q:Nat} {x:Fin n} (hx:p[q]? = some x):(J0 p f z q).set q (f x.1)=J0 p f z (q+1):=by
 have hq:q < n:=by have:=(zi.1 hx).1;omega
 have h1:(p.take q).length=q:=by rw[qr];omega
 unfold J0;rw[List.set_append_right _ _ zp9,qb,h1,yj,show n - q=(n - (q+1))+1 by omega,List.replicate_succ,zq2,qo,hx];simp
end
theorem yM.at {w:World} {B g n c:Nat} {vs:List Value} (h:yM w B (.slice (some ⟨g,0,none⟩) n c) vs) {i:Nat} {x:Value} (hx:vs[i]? = some x):yO w g (i*6) x:=by
 obtain⟨a,c',e,_,_,_,h1⟩:=h.rows;injection e with e1 _ _;obtain⟨b,off,e2,h2⟩:=h1 i x hx;rw[← e1] at e2;injection e2 with e2;cases e2
 rwa [Nat.zero_add] at h2
theorem yM.frozen (h:yM w B (.slice (some ⟨g,0,none⟩) n c) vs) (j:Nat):w.frozen? ⟨g,j,none⟩=false:=by
 have hn:n=vs.length:=by
  obtain⟨a,c,e,_⟩:=jR h.1;injection e
 subst hn;exact gU h.1 j
theorem zG.at {w:World} {B g n c:Nat} {ss:List ByteArray} (h:zG w B (.slice (some ⟨g,0,none⟩) n c) ss) {i:Nat} {x:ByteArray} (hx:ss[i]? = some x):w.cell? ⟨g,i,none⟩=some (.string x):=by
 have:=World.ownsRow.cells h (g:=g) rfl i (.string x) oL;rw[nY,Nat.zero_add] at this;exact this
theorem zG.frozen {ss:List ByteArray} (h:zG w B (.slice (some ⟨g,0,none⟩) n c) ss) (j:Nat):w.frozen? ⟨g,j,none⟩=false:=by
 have hn:n=ss.length:=by
  obtain⟨a,c,e,_⟩:=jR h;injection e
 subst hn;exact gU h j
def MidS (w:World) (B:Nat) (S S':Nat→Prop) (k n u:Int) (s:ByteArray) (T:Tr) (m:Nat) (wc:World):Prop:=
 ∃keys3 l3 vs3 kv3 lv3,zP T=.mk k n u s keys3 (ZK l3)∧okL l3∧(∀x∈l3,x.size≤m)∧l3.length≤4096∧(∀x∈keys3,kI x.size) ∧
  wc.heap[w.heap.size]? = some (.cells #[.int .i64 k,.int .i64 n,.int .u64 u,.string s,kv3,lv3] 26 (0,0)) ∧
  wc.heap[w.heap.size+1]? = some (.cells #[.int .i64 0,.int .i64 0,.int .u64 0,.string ⟨#[]⟩,.slice none 0 0,.slice none 0 0] 26 (0,0)) ∧
  zG wc B kv3 keys3∧yM wc B lv3 vs3∧zH wc B l3 vs3 S' ∧
  (∀g,kv3.ownBlock=some g→(S g∨JB w wc g)∧¬S' g∧lv3.ownBlock≠some g)∧(∀g,lv3.ownBlock=some g→(S g∨JB w wc g)∧¬S' g∧g≠w.heap.size∧g≠w.heap.size+1)∧jC w wc
theorem sR {wc wr:World} {N:Nat} {S':Nat→Prop} {n:Int} {keys3:List ByteArray} {l3:List Tr} {T:Tr} {cs:Array Value} (hst:zP T=.mk k n u s keys3 (ZK l3)) (hb:kY k∧kY n∧KG u∧kI s.size)
 (hlk:∀x∈keys3,kI x.size) (hN:w.heap.size=N) (hgw:jC w wc) (hkv:zG wc B kv keys3) (hlvb:∀g,lv.ownBlock=some g→g < wc.heap.size)
 (hk3:∀g,kv.ownBlock=some g→(S g∨JB w wc g)∧¬S' g∧lv.ownBlock≠some g) (hl3:∀g,lv.ownBlock=some g→(S g∨JB w wc g)∧¬S' g∧g≠N∧g≠N+1)
 (hS':∀g,S' g→S g) (hSw:∀g,S g→g < w.heap.size) (hlN:N+1 < wc.heap.size) (hbR:wr.heap[N+1]? = some (.cells cs 26 (0,0))) (hkr:zG wr B kv keys3) (hL:LoopS wc wr B S' lv l3 l3.length) :
 ∃S'',qA (kW wr (N+1) (.int .i64 k) (.int .i64 n) (.int .u64 u) (.string s) kv lv) B (zP T) (.agg #[.int .i64 k,.int .i64 n,.int .u64 u,.string s,kv,lv]) S'' ∧
  Moved S w (kW wr (N+1) (.int .i64 k) (.int .i64 n) (.int .u64 u) (.string s) kv lv)∧w.heap.size < (kW wr (N+1) (.int .i64 k) (.int .i64 n) (.int .u64 u) (.string s) kv lv).heap.size ∧
  ∀g,S'' g→S g∨JB w (kW wr (N+1) (.int .i64 k) (.int .i64 n) (.int .u64 u) (.string s) kv lv) g:=by
 obtain⟨vs1,vs2,S1,S2,hq1,jK,hk1,hk2,hdis,hs1,hs2,hm⟩:=hL;rw[List.drop_length] at hk2;simp only[zH] at hk2;subst hk2;rw[qn] at hk1;rw[List.append_nil] at jK;have hT:Moved (λk=>k=N+1) wr (kW wr (N+1) (.int .i64 k) (.int .i64 n) (.int .u64 u) (.string s) kv lv):=yJ wr (N+1) (.int .i64 k) (.int .i64 n) (.int .u64 u) (.string s) kv lv;generalize kW wr (N+1) (.int .i64 k) (.int .i64 n) (.int .u64 u) (.string s) kv lv=W at *;have hsz1:=hgw.size;have hsz2:=hm.size;have hsz3:=hT.size;have hkb:∀g,kv.ownBlock=some g→g < wc.heap.size:=λg hg=>(qm hkv g hg).2;refine⟨λg=>kv.ownBlock=some g∨lv.ownBlock=some g∨S1 g,?_,?_,by omega,?_⟩
 ·rw[hst];simp only[qA];refine⟨⟨hb.1,hb.2.1,hb.2.2.1,hb.2.2.2,hlk⟩,kv,lv,vs1,S1,rfl,Moved.owns hT hkr (λg hg e=>?_),⟨Moved.owns hT jK.1 (λg hg e=>?_),jK.2⟩,λg hg=>⟨.inl hg,λh=>?_⟩,λg hg=>⟨.inr (.inl hg),λh=>?_⟩,λg hg=>(hk3 g hg).2.2,λg h=>.inr (.inr h),hk1.kept hT (λg h e=>?_)⟩
  ·exact KU hkr hbR zd (e ▸ hg)
  ·exact (hl3 g hg).2.2.2 e
  ·rcases hs1 g h with e|e
   ·exact (hk3 g hg).2.1 e
   have:=hkb g hg;have:=e.1;omega
  ·rcases hs1 g h with e|e
   ·exact (hl3 g hg).2.1 e
   have:=hlvb g hg;have:=e.1;omega
  rcases hs1 g h with e'|e'
  ·have:=hSw g (hS' g e');omega
  have:=e'.1;omega
 ·refine ((Moved.of_grew hgw).trans hm (λj hj h=>?_)).trans hT (λj hj h=>by omega);rcases h with h|h
  ·exact hS' j h
  rcases (hl3 j h).1 with e|e
  ·exact e
  have:=e.1;omega
 rintro g (h|h|h)
 ·exact (hk3 g h).1.imp id λe=>⟨e.1,by have:=e.2;omega⟩
 ·exact (hl3 g h).1.imp id λe=>⟨e.1,by have:=e.2;omega⟩
 rcases hs1 g h with e|e
 ·exact .inl (hS' g e)
 exact .inr ⟨by have:=e.1;omega,by have:=e.2;omega⟩
theorem wG (h:keys.length=l.length) (i:Nat) (a:ByteArray) (b:Tr):(keys.zip l).getD i (a,b)=(keys.getD i a,l.getD i b):=by
 simp only[zw];by_cases hi:i < l.length
 ·rw[za zp6,za zo,za hi];simp
 rw[List.getElem?_eq_none zp6,List.getElem?_eq_none zo,List.getElem?_eq_none zo];rfl
theorem BU {n:Int} (hl:keys.length=l.length) {p:List (Fin keys.length)} (hp:p.Perm (List.finRange keys.length)) (hs:∀(i j:Nat) x y,i < j→p[i]? = some x→p[j]? = some y→ltS keys[x] keys[y]=true) (a:ByteArray) (b:Tr) :
 zP (.mk 17 n u s keys l)=.mk 17 n u s (p.map λx=>keys.getD x.1 a) (ZK (p.map λx=>l.getD x.1 b)):=by
 have h1:=lX hl hp hs (a,b)
 have h2:vW (keys.zip (ZK l))=(vW (keys.zip l)).map λq=>(q.1,zP q.2):=by
  rw[bL,yW];congr 1;apply List.ext_getElem zp2;intro i _ _;simp
 simp only[zP,if_true,h2,← h1,xe];congr 1
 ·apply List.map_congr_left;intro x _;simp only[Function.comp,wG hl]
 rw[yW,xe];apply List.map_congr_left;intro x _;simp only[Function.comp,wG hl]
theorem wH:∀(m:Nat) (t:Tr),t.size≤m→okT t→∀(v:Value) (w:World) (B:Nat) (S:Nat→Prop),qA w B t v S→B≤w.heap.size→(∀g,S g→g < w.heap.size) →
 Calls prog 43 #[v] w λr w'=>∃v' S',r=.returned v'∧qA w' B (zP t) v' S'∧Moved S w w'∧w.heap.size < w'.heap.size∧∀g,S' g→S g∨JB w w' g:=by
 intro m
 induction m with
 | zero=>intro t ht;have:=t.size_pos;omega
 | succ m ih=>
 intro t ht hok v w B S j5 hBw hSw;have hv6:=j5.node6;obtain⟨k,n,u,s,keys,l⟩:=t;simp only[qA] at j5;obtain⟨hb,kv,lv,vs,S',rfl,hkv,hlv,d1,d2,d3,d4,zN⟩:=j5;have hkl:vs.length=l.length:=zN.length;simp only[okT] at hok;obtain⟨hok1,hok2,hok3,hok4⟩:=hok;have hsz:∀x∈l,x.size≤m:=λx hx=>by have:=JC hx;simp only[Tr.size] at ht;omega
 have HIH:=zh ih;have HB:=zh hb;have HOWN:=zh (qa hkv (qa hlv zN));have HD:=zh (qa d1 (qa d2 (qa d3 d4)));have HOK:=zh (qa hok1 hok4);have HSZ:=zh hsz;have HBW:=zh hBw;have HSW:=zh hSw;obtain⟨a4,c4,rfl,hx1,hx2,hx3⟩:=jR hkv;obtain⟨a5,c5,rfl,hx4,hx5,hx6⟩:=jR hlv.1;have HFR:Hid ((∀g,(Value.slice a5 vs.length c5).ownBlock=some g→g < w.heap.size)∧(∀g,(Value.slice a4 keys.length c4).ownBlock=some g→g < w.heap.size)):=⟨λg hg=>(qm hlv.1 g hg).2,λg hg=>(qm hkv g hg).2⟩;clear ih hb hkv hlv zN d1 d2 d3 d4 hok1 hok4 hsz hBw hSw hx1 hx2 hx3 hx4 hx5 hx6 ht;rw[hkl] at HOWN HD HFR hv6⊢;have HKL:=zh hkl;clear hkl;go_enter func43,ntmps43
 go_upto_if 13 with fail
 obtain⟨hb1,hg1⟩:=sqal w (.cells #[.int .i64 k,.int .i64 n,.int .u64 u,.string s,.slice a4 keys.length c4,.slice a5 l.length c5] 26);have hs1:(w.alloc (.cells #[.int .i64 k,.int .i64 n,.int .u64 u,.string s,.slice a4 keys.length c4,.slice a5 l.length c5] 26)).heap.size=w.heap.size+1:=zm _ _;generalize w.alloc _=w1 at *;obtain⟨hb2,hg2⟩:=sqal w1 (.cells #[.int .i64 0,.int .i64 0,.int .u64 0,.string ⟨#[]⟩,.slice none 0 0,.slice none 0 0] 26);have hs2:(w1.alloc (.cells #[.int .i64 0,.int .i64 0,.int .u64 0,.string ⟨#[]⟩,.slice none 0 0,.slice none 0 0] 26)).heap.size=w1.heap.size+1:=zm _ _;rw[hs1] at hb2 hs2;generalize w1.alloc _=w2 at *;replace hb1:=hg2.heap hb1;have hG:=hg1.trans hg2;have hs2':w2.heap.size=w.heap.size+2:=by omega
 have HBX:=zh (qa hb1 hb2);have HG:=zh hG;have HS2:=zh hs2';obtain⟨N,hN⟩:∃N,w.heap.size=N:=⟨_,rfl⟩;have HN:=zh hN;rw[hN] at hb1 hb2⊢;clear hs1 hs2 hs2' hg1 hg2 hG hN
 go_cut [] (λwc=>Hid (MidS w B S S' k n u s (.mk k n u s keys l) m wc))
 case first=>
  have d0:=jA hb1 0 _ rfl;have d4:=jA hb1 4 _ rfl;have d5:=jA hb1 5 _ rfl;have f4:=jE hb1 4;have f5:=jE hb1 5;clear hb1 hb2;by_cases hk:k=17;rotate_left
  ·have HM:Hid (MidS w B S S' k n u s (.mk k n u s keys l) m w2):=by
    refine⟨keys,l,vs,_,_,?_,HOK.2,HSZ.out,hok3,HB.2.2.2.2,HBX.1,HBX.2,HOWN.1.grew HG.out,HOWN.2.1.grew HG.out,HOWN.2.2.grew HG.out,?_,?_,HG.out⟩
    ·simp only[zP];rw[ze hk]
    ·exact λg hg=>⟨.inl (HD.1 g hg).1,(HD.1 g hg).2,HD.2.2.1 g hg⟩
    exact λg hg=>⟨.inl (HD.2.1 g hg).1,(HD.2.1 g hg).2,by have:=HFR.1 g hg;omega,by have:=HFR.1 g hg;omega⟩
   have hkb:(k == 17)=false:=by simpa using hk
   clear hk;go_wp2_with fail
   go_meet
   case rel=>exact HM
  subst hk;obtain⟨hnd,hkl2⟩:=HOK.1 rfl;have HKL2:=zh hkl2;have HND:=zh hnd;have HSTR:Hid (zB w2 (.slice a4 keys.length c4) keys):=(HOWN.1.strs HB.2.2.2.2).grew HG.out;clear hnd hkl2;go_wp2_with fail;refine (EQ keys hok2 _ _ HSTR.out).mono ?_;rintro r w3 ⟨hg3,⟨hno,_⟩|⟨_,pv,rfl,blk,cap,p,rfl,hp,hps,hpc,rfl⟩⟩
  ·exact absurd HND.out hno
  replace d0:=hg3.cell d0;replace d4:=hg3.cell d4;replace d5:=hg3.cell d5;have HP:=zh hp;have HPS:=zh hps;have HPC:=zh hpc;have HG3:=zh hg3;clear hp hps hpc hg3 f4 f5;have hm1:=oC keys.length hok2;have hm2:=lZ keys.length hok2;go_wp2_with fail;refine kH jC [[],[0],[1],[],[3],[4],[2],[5]] [[(22,2),(23,3),(24,4),(25,5),(5,6),(6,7)],[(20,0),(23,3),(24,4),(25,5),(5,6),(6,7)],[(20,0),(21,1),(23,3),(24,4),(25,5),(6,7)],[(20,0),(21,1),(22,2),(25,5),(5,6),(6,7)],[(20,0),(21,1),(22,2),(23,3),(5,6),(6,7)],[(20,0),(21,1),(22,2),(23,3),(24,4),(5,6)],[(20,0),(21,1),(22,2),(23,3),(24,4),(25,5),(6,7)],[(20,0),(21,1),(22,2),(23,3),(24,4),(25,5),(5,6)]] [(20,0),(21,1),(22,2),(23,3),(24,4),(25,5),(5,6),(6,7)]
   [Is (.slice (some ⟨blk,0,none⟩) keys.length keys.length),Is (.int .i64 keys.length),λv w=>∃g,v=.slice (some ⟨g,0,none⟩) keys.length keys.length∧w3.heap.size≤g∧w.heap[g]? = some (.cells (madeCells #[.string ⟨#[]⟩] keys.length) 9 (0,0)),Is (.slice (some ⟨blk,0,none⟩) keys.length keys.length),Is (.int .i64 keys.length),λv w=>∃g,v=.slice (some ⟨g,0,none⟩) keys.length keys.length∧w3.heap.size≤g∧w.heap[g]? = some (.cells (madeCells #[.int .i64 0,.int .i64 0,.int .u64 0,.string ⟨#[]⟩,.slice none 0 0,.slice none 0 0] (keys.length*6)) 26 (0,0)),λv w=>∃g,v=.slice (some ⟨g,0,none⟩) keys.length keys.length∧w3.heap.size≤g∧w.heap[g]? = some (.cells (madeCells #[.string ⟨#[]⟩] keys.length) 9 (0,0)),λv w=>∃g,v=.slice (some ⟨g,0,none⟩) keys.length keys.length∧w3.heap.size≤g∧w.heap[g]? = some (.cells (madeCells #[.int .i64 0,.int .i64 0,.int .u64 0,.string ⟨#[]⟩,.slice none 0 0,.slice none 0 0] (keys.length*6)) 26 (0,0))]
   zk jC.trans jC.refl (jC.refl _).drew zk ⟨jJ,jJ,λ_ _ _ hg h=>h.elim λq h=>⟨q,h.1,h.2.1,hg.heap h.2.2⟩,jJ,jJ,λ_ _ _ hg h=>h.elim λq h=>⟨q,h.1,h.2.1,hg.heap h.2.2⟩,λ_ _ _ hg h=>h.elim λq h=>⟨q,h.1,h.2.1,hg.heap h.2.2⟩,λ_ _ _ hg h=>h.elim λq h=>⟨q,h.1,h.2.1,hg.heap h.2.2⟩,trivial⟩ ⟨?_,?_,?_,?_,?_,?_,?_,?_,trivial⟩ rfl ?_
  ·exact zb32
  ·exact zb33
  ·exact zb34
  ·exact zb32
  ·exact zb33
  ·exact zb34
  ·intro y wv hG hD K hK;simp only[kC,zq4,zq5,Is,and_true] at hD;have h2:=hD;clear hD;simp only[jF,Act.put,zq,Is] at hK⊢;refine jN ?_;go_simp;exact hK _ _ _ rfl (jC.refl _) h2
  ·intro y wv hG hD K hK;simp only[kC,zq4,zq5,Is,and_true] at hD;have h5:=hD;clear hD;simp only[jF,Act.put,zq,Is] at hK⊢;refine jN ?_;go_simp;exact hK _ _ _ rfl (jC.refl _) h5
  intro y wv hG hF;simp only[zV,Is,and_true,Nat.reduceAdd] at hF;have h2:=hF.2.2.1;have h5:=hF.2.2.2.2.2.1;have h6:=hF.2.2.2.2.2.2.1;have h7:=hF.2.2.2.2.2.2.2;simp only[jF,Act.put,zq,Is];simp only[hF];clear hF;refine Exists.elim h2 λg2 e2=>?_;refine Exists.elim h5 λg5 e5=>?_;refine Exists.elim h6 λgk e6=>?_;refine Exists.elim h7 λgl e7=>?_;have q2:=e2.1;have q5:=e5.1;have q6:=e6.1;have q7:=e7.1;rw[q2,q5,q6,q7];have HGK:=zh e6.2;have HGL:=zh e7.2;have HGV:=zh hG;clear h2 h5 h6 h7 e2 e5 e6 e7 q2 q5 q6 q7 hG hm1 hm2 d0 d4 d5
  have HNE:Hid (gk≠gl):=by
   show _≠_;intro e;subst e;have h1:=HGK.2;rw[HGL.2] at h1;simp at h1
  go_wp2_with fail
  go_loopw [28] (λi wr=>∃q:Nat,q≤keys.length∧i=.int .i64 q∧Hid (zG wr B (.slice (some ⟨gk,0,none⟩) keys.length keys.length) (J0 p (λx=>keys.getD x ⟨#[]⟩) ⟨#[]⟩ q)∧yM wr B (.slice (some ⟨gl,0,none⟩) keys.length keys.length) (J0 p (λx=>vs.getD x zC) zC q)∧Moved (λg=>g=gk∨g=gl) wv wr)) (λi _=>keys.length - (intOf i).toNat)
  case atStart=>
   refine⟨0,Nat.zero_le _,rfl,?_⟩;show _∧_∧_;have hB3:B≤w3.heap.size:=zf HBW.out (zf HG.size HG3.size);refine⟨?_,?_,Moved.refl _ _⟩
   ·rw[l6];exact oD hok2 (zf hB3 HGK.1) HGK.2
   rw[l6];exact l4 hok2 (zf hB3 HGL.1) HGL.2
  case round=>
   obtain⟨q,hq,rfl,HW⟩:=hrel;have hgw3:jC w3 wr:=Moved.fresh HGV.out HW.2.2 (λg h=>by rcases h with rfl | rfl;exact HGK.1;exact HGL.1);have HGW:=zh hgw3;clear hgw3
   have HBN:Hid (wr.heap[N]? = some (.cells #[.int .i64 17,.int .i64 n,.int .u64 u,.string s,.slice a4 keys.length c4,.slice a5 l.length c5] 26 (0,0))):=by
    show _=_;rw[← HN.out];exact HGW.heap (HG3.heap HBX.1)
   have d4:=jA HBN.out 4 _ rfl;have d5:=jA HBN.out 5 _ rfl;by_cases hlt:q < keys.length
   ·obtain⟨x,hx⟩:∃x,p[q]? = some x:=⟨_,za (by rw[QX HP.out];exact hlt)⟩;have pc:=HGW.cell (HPC.out q x hx);have hkx2:=HKL2.out;have hpl:=QX HP.out;obtain⟨xi,hxi⟩:=x;have pc':wr.cell? ⟨blk,q,none⟩=some (.int .i64 (xi:Int)):=pc;clear pc;have hxl:xi < l.length:=(by omega);obtain⟨ks,hks⟩:∃ks,keys[xi]? = some ks:=⟨_,za hxi⟩;obtain⟨xv,hxv⟩:∃xv,vs[xi]? = some xv:=⟨_,za (by have:=HKL.out;omega)⟩;have hx6:=HOWN.2.1.2 xv (qd hxv)
    have HS1:Hid ((J0 p (λx=>keys.getD x ⟨#[]⟩) ⟨#[]⟩ q).set q ks=J0 p (λx=>keys.getD x ⟨#[]⟩) ⟨#[]⟩ (q+1)):=by
     show _=_;rw[← pG hpl hx];simp[zw,hks]
    have HS2':Hid ((J0 p (λx=>vs.getD x zC) zC q).set q xv=J0 p (λx=>vs.getD x zC) zC (q+1)):=by
     show _=_;rw[← pG hpl hx];simp[zw,hxv]
    have HVL:Hid ((J0 p (λx=>vs.getD x zC) zC q).length=keys.length):=dY hpl hq
    obtain⟨b4,o4,rfl,k1,hb4⟩:∃b4 o4,a4=some ⟨b4,o4,none⟩∧wr.cell? ⟨b4,o4+xi,none⟩=some (.string ks)∧b4 < w3.heap.size:=by
     obtain⟨a',c',e',_,_,_,h⟩:=HSTR.out;injection e' with e1 _ _;obtain⟨_,b,off,e4,hc⟩:=h xi ks hks;exact⟨b,off,by rw[e1,e4],(HG3.trans HGW.out).cell hc,qk (y7 hc) HG3.size⟩
    obtain⟨b5,o5,rfl,h6,hb5⟩:∃b5 o5,a5=some ⟨b5,o5,none⟩∧yO wr b5 (o5+xi*6) xv∧b5 < w3.heap.size:=by
     obtain⟨a',c',e',_,_,_,h⟩:=HOWN.2.1.rows;injection e' with e1 _ _;obtain⟨b,off,e4,hc⟩:=h xi xv hxv;refine⟨b,off,by rw[e1,e4],hc.grew (HG.trans (HG3.trans HGW.out)),?_⟩;obtain⟨_,_,_,_,_,_,_,hc0,_⟩:=hc;exact qk (y7 hc0) (zf HG.size HG3.size)
    have HX6:=zh hx6;obtain⟨yk,yn,yu,ys,ya4,yn4,yc4,ya5,yn5,yc5,rfl⟩:=hx6;obtain⟨e0,e1,e2,e3,e4,e5⟩:=h6.get;have HR:Hid (zG wr B (.slice (some ⟨gk,0,none⟩) keys.length keys.length) (J0 p (λx=>keys.getD x ⟨#[]⟩) ⟨#[]⟩ q)∧yM wr B (.slice (some ⟨gl,0,none⟩) keys.length keys.length) (J0 p (λx=>vs.getD x zC) zC q)∧Moved (λg=>g=gk∨g=gl) wv wr):=HW.out;have hlti:(q:Int) < keys.length:=(by omega);have hxii:(xi:Int) < keys.length:=(by omega);have hxli:(xi:Int) < l.length:=(by omega);have HPL:=zh hpl;clear hx hks hxv h6 HW hkx2 hpl;go_wp2_with fail;obtain⟨ss0,hss0⟩:∃x,J0 p (λx=>keys.getD x ⟨#[]⟩) ⟨#[]⟩ q=x:=⟨_,rfl⟩;obtain⟨ss1,hss1⟩:∃x,J0 p (λx=>keys.getD x ⟨#[]⟩) ⟨#[]⟩ (q+1)=x:=⟨_,rfl⟩;obtain⟨vv0,hvv0⟩:∃x,J0 p (λx=>vs.getD x zC) zC q=x:=⟨_,rfl⟩;obtain⟨vv1,hvv1⟩:∃x,J0 p (λx=>vs.getD x zC) zC (q+1)=x:=⟨_,rfl⟩;have hg0:=pF (f:=λx=>keys.getD x ⟨#[]⟩) (z:=(⟨#[]⟩:ByteArray)) HPL.out hlt;have hg1:=pF (f:=λx=>vs.getD x zC) (z:=zC) HPL.out hlt;have hl1:=dY (f:=λx=>vs.getD x zC) (z:=zC) HPL.out (q:=q) hq;rw[hss0] at HR HS1 hg0;rw[hss1] at HS1;rw[hvv0] at HR HS2' hg1 hl1;rw[hvv1] at HS2';have HSS:=zh (qa hss0 (qa hss1 (qa hvv0 hvv1)));clear hss0 hss1 hvv0 hvv1 HVL;have hs11:ss1.set q ks=ss1:=(by rw[← HS1.out,List.set_set]);have hv11:vv1.set q (.agg #[.int .i64 yk,.int .i64 yn,.int .u64 yu,.string ys,.slice ya4 yn4 yc4,.slice ya5 yn5 yc5])=vv1:=(by rw[← HS2'.out,List.set_set]);have hg2:ss1[q]? = some ks:=(by rw[← HS1.out,List.getElem?_set_self (by have:=(zi.1 hg0).1;omega)]);have hg3':vv1[q]? = some (.agg #[.int .i64 yk,.int .i64 yn,.int .u64 yu,.string ys,.slice ya4 yn4 yc4,.slice ya5 yn5 yc5]):=(by rw[← HS2'.out,List.getElem?_set_self zo]);have hl2:vv1.length=keys.length:=(by rw[← HS2'.out,yf];exact hl1);obtain⟨P0,hP0⟩:∃P:World→Prop,P=λw=>zG w B (.slice (some ⟨gk,0,none⟩) keys.length keys.length) ss0:=⟨_,rfl⟩;obtain⟨P1,hP1⟩:∃P:World→Prop,P=λw=>zG w B (.slice (some ⟨gk,0,none⟩) keys.length keys.length) ss1:=⟨_,rfl⟩;obtain⟨Q0,hQ0⟩:∃P:World→Prop,P=λw=>yM w B (.slice (some ⟨gl,0,none⟩) keys.length keys.length) vv0:=⟨_,rfl⟩;obtain⟨Q1,hQ1⟩:∃P:World→Prop,P=λw=>yM w B (.slice (some ⟨gl,0,none⟩) keys.length keys.length) vv1:=⟨_,rfl⟩
    have HPQ:Hid (P0 wr∧Q0 wr∧Moved (λg=>g=gk∨g=gl) wv wr):=by
     show _∧_∧_;rw[hP0,hQ0];exact HR.out
    -- the keys' row
    have HOP15:Hid (∀w,P0 w∨P1 w→(w.frozen? ⟨gk,q,none⟩=false∧∃u,w.cell? ⟨gk,q,none⟩=some (.string u))∧P1 (w.setCell ⟨gk,q,none⟩ (.string ks))∧V6 (λg=>g=gk∨g=gl) P0 P1 Q0 Q1 w (w.setCell ⟨gk,q,none⟩ (.string ks))):=by
     intro w hw;have hm:Moved (λg=>g=gk) w (w.setCell ⟨gk,q,none⟩ (.string ks)):=Moved.setCell (S:=λg=>g=gk) (p:=⟨gk,q,none⟩) (Moved.refl _ w) (λ_=>rfl) _
     have hP:P1 (w.setCell ⟨gk,q,none⟩ (.string ks)):=by
      rw[hP0,hP1] at hw;rw[hP1];rcases hw with h|h
      ·have:=h.stored q ks;rw[HS1] at this;exact this
      have:=h.stored q ks;rw[hs11] at this;exact this
     have hQ:∀vv,yM w B (.slice (some ⟨gl,0,none⟩) keys.length keys.length) vv→yM (w.setCell ⟨gk,q,none⟩ (.string ks)) B (.slice (some ⟨gl,0,none⟩) keys.length keys.length) vv:=λvv h=>⟨Moved.owns hm h.1 (λg hg e=>HNE.out (by simp[Value.ownBlock] at hg;rw[← e,← hg])),h.2⟩;refine⟨?_,hP,hm.mono (λ_ _ h=>.inl h),λ_=>hP,λ_=>.inr hP,?_,?_⟩
     ·rw[hP0,hP1] at hw;rcases hw with h|h
      ·exact⟨h.frozen q,_,h.at hg0⟩
      exact⟨h.frozen q,_,h.at hg2⟩
     ·rw[hQ1];exact hQ _
     rw[hQ0,hQ1];exact Or.imp (hQ _) (hQ _)
    have HOP17:Hid (∀w,Q0 w∨Q1 w→(∃x,yO w gl (q*6) x)∧(∀j,w.frozen? ⟨gl,j,none⟩=false)∧Q1 ((((((w.setCell ⟨gl,q*6,none⟩ (.int .i64 yk)).setCell ⟨gl,q*6+1,none⟩ (.int .i64 yn)).setCell ⟨gl,q*6+2,none⟩ (.int .u64 yu)).setCell ⟨gl,q*6+3,none⟩ (.string ys)).setCell ⟨gl,q*6+4,none⟩ (.slice ya4 yn4 yc4)).setCell ⟨gl,q*6+5,none⟩ (.slice ya5 yn5 yc5)) ∧
     V6 (λg=>g=gk∨g=gl) P0 P1 Q0 Q1 w ((((((w.setCell ⟨gl,q*6,none⟩ (.int .i64 yk)).setCell ⟨gl,q*6+1,none⟩ (.int .i64 yn)).setCell ⟨gl,q*6+2,none⟩ (.int .u64 yu)).setCell ⟨gl,q*6+3,none⟩ (.string ys)).setCell ⟨gl,q*6+4,none⟩ (.slice ya4 yn4 yc4)).setCell ⟨gl,q*6+5,none⟩ (.slice ya5 yn5 yc5))):=by
     intro w hw;have hm:=pE w gl (q*6) (.int .i64 yk) (.int .i64 yn) (.int .u64 yu) (.string ys) (.slice ya4 yn4 yc4) (.slice ya5 yn5 yc5)
     have hQ:Q1 ((((((w.setCell ⟨gl,q*6,none⟩ (.int .i64 yk)).setCell ⟨gl,q*6+1,none⟩ (.int .i64 yn)).setCell ⟨gl,q*6+2,none⟩ (.int .u64 yu)).setCell ⟨gl,q*6+3,none⟩ (.string ys)).setCell ⟨gl,q*6+4,none⟩ (.slice ya4 yn4 yc4)).setCell ⟨gl,q*6+5,none⟩ (.slice ya5 yn5 yc5)):=by
      rw[hQ0,hQ1] at hw;rw[hQ1];rcases hw with h|h
      ·have:=h.stored (i:=q) (by rw[hl1];exact hlt) HX6.out rfl;rw[HS2'] at this;exact this
      have:=h.stored (i:=q) (by rw[hl2];exact hlt) HX6.out rfl;rw[hv11] at this;exact this
     have hP:∀ss,zG w B (.slice (some ⟨gk,0,none⟩) keys.length keys.length) ss→zG ((((((w.setCell ⟨gl,q*6,none⟩ (.int .i64 yk)).setCell ⟨gl,q*6+1,none⟩ (.int .i64 yn)).setCell ⟨gl,q*6+2,none⟩ (.int .u64 yu)).setCell ⟨gl,q*6+3,none⟩ (.string ys)).setCell ⟨gl,q*6+4,none⟩ (.slice ya4 yn4 yc4)).setCell ⟨gl,q*6+5,none⟩ (.slice ya5 yn5 yc5)) B (.slice (some ⟨gk,0,none⟩) keys.length keys.length) ss:=λss h=>Moved.owns hm h (λg hg e=>HNE.out (by simp[Value.ownBlock] at hg;rw[hg,e]));refine⟨?_,?_,hQ,hm.mono (λ_ _ h=>.inr h),?_,?_,λ_=>hQ,λ_=>.inr hQ⟩
     ·rw[hQ0,hQ1] at hw;rcases hw with h|h
      ·exact⟨_,h.at hg1⟩
      exact⟨_,h.at hg3'⟩
     ·rw[hQ0,hQ1] at hw;rcases hw with h|h
      ·exact h.frozen
      exact h.frozen
     ·rw[hP1];exact hP _
     rw[hP0,hP1];exact Or.imp (hP _) (hP _)
    have hdrew:V6 (λg=>g=gk∨g=gl) P0 P1 Q0 Q1 wr wr.drew:=by
     have hg:=(jC.refl wr).drew;refine⟨Moved.of_grew hg,?_,?_,?_,?_⟩
     ·rw[hP1];exact λh=>h.grew hg
     ·rw[hP0,hP1];exact Or.imp (λh=>h.grew hg) (λh=>h.grew hg)
     ·rw[hQ1];exact λh=>h.grew hg
     rw[hQ0,hQ1];exact Or.imp (λh=>h.grew hg) (λh=>h.grew hg)
    have HPP:=zh (qa hP1 hQ1);clear hP0 hP1 hQ0 hQ1 hs11 hv11 hg0 hg1 hg2 hg3' hl1 hl2 HR pc'
    have n1:¬(N=gk∨N=gl):=by
     have h1:=HGK.1;have h2:=HGL.1;have h3:=HG3.size;have h4:=HS2.out;have h5:=HN.out;omega
    have n2:¬(b4=gk∨b4=gl):=(by have h1:=HGK.1;have h2:=HGL.1;omega);have n3:¬(b5=gk∨b5=gl):=(by have h1:=HGK.1;have h2:=HGL.1;omega);clear hb4 hb5;refine kH (V6 (λg=>g=gk∨g=gl) P0 P1 Q0 Q1) [[],[],[],[],[],[4],[],[5,6],[7],[],[9],[],[10,11],[12],[0,1],[8,14],[2,3],[13,16]] [[(34,1),(35,2),(36,3),(37,4),(38,5),(39,6),(40,7),(41,8),(42,9),(43,10),(44,11),(45,12),(46,13),(48,16)],[(33,0),(35,2),(36,3),(37,4),(38,5),(39,6),(40,7),(41,8),(42,9),(43,10),(44,11),(45,12),(46,13),(48,16)],[(33,0),(34,1),(36,3),(37,4),(38,5),(39,6),(40,7),(41,8),(42,9),(43,10),(44,11),(45,12),(46,13),(47,14)],[(33,0),(34,1),(35,2),(37,4),(38,5),(39,6),(40,7),(41,8),(42,9),(43,10),(44,11),(45,12),(46,13),(47,14)],[(33,0),(34,1),(35,2),(36,3),(39,6),(40,7),(41,8),(42,9),(43,10),(44,11),(45,12),(46,13),(47,14),(48,16)],[(33,0),(34,1),(35,2),(36,3),(37,4),(39,6),(41,8),(42,9),(43,10),(44,11),(45,12),(46,13),(47,14),(48,16)],[(33,0),(34,1),(35,2),(36,3),(37,4),(38,5),(41,8),(42,9),(43,10),(44,11),(45,12),(46,13),(47,14),(48,16)],[(33,0),(34,1),(35,2),(36,3),(37,4),(38,5),(39,6),(42,9),(43,10),(44,11),(45,12),(46,13),(47,14),(48,16)],[(33,0),(34,1),(35,2),(36,3),(37,4),(38,5),(39,6),(40,7),(42,9),(43,10),(44,11),(45,12),(46,13),(47,14),(48,16)],[(33,0),(34,1),(35,2),(36,3),(37,4),(38,5),(39,6),(40,7),(41,8),(44,11),(45,12),(46,13),(47,14),(48,16)],[(33,0),(34,1),(35,2),(36,3),(37,4),(38,5),(39,6),(40,7),(41,8),(42,9),(44,11),(46,13),(47,14),(48,16)],[(33,0),(34,1),(35,2),(36,3),(37,4),(38,5),(39,6),(40,7),(41,8),(42,9),(43,10),(46,13),(47,14),(48,16)],[(33,0),(34,1),(35,2),(36,3),(37,4),(38,5),(39,6),(40,7),(41,8),(42,9),(43,10),(44,11),(47,14),(48,16)],[(33,0),(34,1),(35,2),(36,3),(37,4),(38,5),(39,6),(40,7),(41,8),(42,9),(43,10),(44,11),(45,12),(47,14),(48,16)],[(33,0),(34,1),(35,2),(36,3),(37,4),(38,5),(39,6),(40,7),(41,8),(42,9),(43,10),(44,11),(45,12),(46,13),(48,16)],[(33,0),(34,1),(35,2),(36,3),(37,4),(38,5),(39,6),(40,7),(41,8),(42,9),(43,10),(44,11),(45,12),(46,13),(47,14),(48,16)],[(33,0),(34,1),(35,2),(36,3),(37,4),(38,5),(39,6),(40,7),(41,8),(42,9),(43,10),(44,11),(45,12),(46,13),(47,14)],[(33,0),(34,1),(35,2),(36,3),(37,4),(38,5),(39,6),(40,7),(41,8),(42,9),(43,10),(44,11),(45,12),(46,13),(47,14),(48,16)]] [(33,0),(34,1),(35,2),(36,3),(37,4),(38,5),(39,6),(40,7),(41,8),(42,9),(43,10),(44,11),(45,12),(46,13),(47,14),(48,16)]
     [Is (.slice (some ⟨gk,0,none⟩) keys.length keys.length),Is (.int .i64 q),Is (.slice (some ⟨gl,0,none⟩) keys.length keys.length),Is (.int .i64 q),Is (.pointer (some ⟨N,4,none⟩)),Is (.slice (some ⟨b4,o4,none⟩) keys.length c4),Is (.int .i64 xi),Is (.pointer (some ⟨b4,o4+xi,none⟩)),Is (.string ks),Is (.pointer (some ⟨N,5,none⟩)),Is (.slice (some ⟨b5,o5,none⟩) l.length c5),Is (.int .i64 xi),Is (.pointer (some ⟨b5,o5+xi*6,none⟩)),Is (.agg #[.int .i64 yk,.int .i64 yn,.int .u64 yu,.string ys,.slice ya4 yn4 yc4,.slice ya5 yn5 yc5]),Is (.pointer (some ⟨gk,q,none⟩)),λv w=>P1 w,Is (.pointer (some ⟨gl,q*6,none⟩)),λv w=>Q1 w]
     zk V6.trans V6.refl hdrew zk ⟨jJ,jJ,jJ,jJ,jJ,jJ,jJ,jJ,jJ,jJ,jJ,jJ,jJ,jJ,jJ,λ_ _ _ hg h=>hg.p1 h,jJ,λ_ _ _ hg h=>hg.q1 h,trivial⟩ ⟨?_,?_,?_,?_,?_,?_,?_,?_,?_,?_,?_,?_,?_,?_,?_,?_,?_,?_,trivial⟩ rfl ?_
    ·exact A6
    ·exact A6
    ·exact A6
    ·exact A6
    ·exact A6
    ·intro y wz hG hD K hK;have dd:=hG.moved.cell d4 n1;simp only[kC,zq4,zq5,Is,and_true] at hD;simp only[jF,Act.put,zq,Is] at hK⊢;simp only[hD] at hK⊢;clear hD;refine jN ?_;go_simp;exact hK _ _ _ rfl (V6.refl _) rfl
    ·exact A6
    ·exact zb36
    ·intro y wz hG hD K hK;have dd:=hG.moved.cell k1 n2;simp only[kC,zq4,zq5,Is,and_true] at hD;simp only[jF,Act.put,zq,Is] at hK⊢;simp only[hD] at hK⊢;clear hD;refine jN ?_;go_simp;exact hK _ _ _ rfl (V6.refl _) rfl
    ·exact A6
    ·intro y wz hG hD K hK;have dd:=hG.moved.cell d5 n1;simp only[kC,zq4,zq5,Is,and_true] at hD;simp only[jF,Act.put,zq,Is] at hK⊢;simp only[hD] at hK⊢;clear hD;refine jN ?_;go_simp;exact hK _ _ _ rfl (V6.refl _) rfl
    ·exact A6
    ·exact zb36
    ·intro y wz hG hD K hK;have dd0:=hG.moved.cell e0 n3;have dd1:=hG.moved.cell e1 n3;have dd2:=hG.moved.cell e2 n3;have dd3:=hG.moved.cell e3 n3;have dd4:=hG.moved.cell e4 n3;have dd5:=hG.moved.cell e5 n3;simp only[kC,zq4,zq5,Is,and_true] at hD;simp only[jF,Act.put,zq,Is] at hK⊢;simp only[hD] at hK⊢;clear hD;refine jN ?_;go_simp;exact hK _ _ _ rfl (V6.refl _) rfl
    ·exact zb36
    ·intro y wz hG hD K hK;simp only[kC,zq4,zq5,Is,and_true] at hD;simp only[jF,Act.put,zq,Is] at hK⊢;simp only[hD] at hK⊢;clear hD;refine jN ?_;obtain⟨⟨ff,uu,cc⟩,hp,hr⟩:=HOP15.out wz (hG.p0 (.inl HPQ.1));go_simp;exact hK _ undef _ rfl hr hp
    ·exact zb36
    ·intro y wz hG hD K hK;simp only[kC,zq4,zq5,Is,and_true] at hD;simp only[jF,Act.put,zq,Is] at hK⊢;simp only[hD] at hK⊢;clear hD;refine jN ?_;obtain⟨⟨xx,hcc⟩,hff,hp,hr⟩:=HOP17.out wz (hG.q0 (.inl HPQ.2.1));obtain⟨z0,z1,z2,z3,z4,z5,rfl,cc0,cc1,cc2,cc3,cc4,cc5⟩:=hcc;have ff0:=hff (q*6);have ff1:=hff (q*6+1);have ff2:=hff (q*6+2);have ff3:=hff (q*6+3);have ff4:=hff (q*6+4);have ff5:=hff (q*6+5);go_simp;exact hK _ undef _ rfl hr hp
    intro y wz hG hF;simp only[zV,Is,and_true,Nat.reduceAdd] at hF;have h15:=hF.2.2.2.2.2.2.2.2.2.2.2.2.2.2.2.1;have h17:=hF.2.2.2.2.2.2.2.2.2.2.2.2.2.2.2.2.2;simp only[jF,Act.put,zq,Is];simp only[hF];clear hF;rw[HPP.1] at h15;rw[HPP.2] at h17;have HE:Hid (zG wz B (.slice (some ⟨gk,0,none⟩) keys.length keys.length) ss1∧yM wz B (.slice (some ⟨gl,0,none⟩) keys.length keys.length) vv1∧Moved (λg=>g=gk∨g=gl) wv wz):=⟨h15,h17,HPQ.2.2.trans' hG.moved⟩;rw[← HSS.2.1,← HSS.2.2.2] at HE;clear h15 h17 hG hdrew HPQ HOP15 HOP17 d4 d5 k1 e0 e1 e2 e3 e4 e5;go_wp2_with fail;go_roundw
    case rel=>exact⟨q+1,by omega,by go_num,HE⟩
    case measure=>simp[intOf];omega
   obtain rfl:q=keys.length:=(by omega);have HR:=HW;have hpl:=QX HP.out;have h1:=HR.1;have h2:=HR.2.1;rw[EY hpl] at h1 h2;have f4:=jE HBN.out 4;have f5:=jE HBN.out 5;have kU:=zh (qa h1 h2);have HGR:=zh (HG.trans (HG3.trans HGW.out))
   have HFK:Hid (gk≠N∧gk≠N+1∧gl≠N∧gl≠N+1∧w.heap.size≤gk∧w.heap.size≤gl∧gk < wr.heap.size∧gl < wr.heap.size):=by
    have e1:=HGK.1;have e2:=HGL.1;have e3:=HG3.size;have e4:=HS2.out;have e5:=HN.out;have e6:=HG.size;have e7:=(qm h1 gk rfl).2;have e8:=(qm h2.1 gl rfl).2;show _∧_;omega
   have HB1:Hid (wr.heap[N+1]? = some (.cells #[.int .i64 0,.int .i64 0,.int .u64 0,.string ⟨#[]⟩,.slice none 0 0,.slice none 0 0] 26 (0,0))):=by
    show _=_;rw[← HN.out];exact HGW.heap (HG3.heap HBX.2)
   have HM:Hid (MidS w B S S' 17 n u s (.mk 17 n u s keys l) m ((wr.setCell ⟨N,4,none⟩ (.slice (some ⟨gk,0,none⟩) keys.length keys.length)).setCell ⟨N,5,none⟩ (.slice (some ⟨gl,0,none⟩) keys.length keys.length))):=by
    have hmv:Moved (λg=>g=N) wr ((wr.setCell ⟨N,4,none⟩ (.slice (some ⟨gk,0,none⟩) keys.length keys.length)).setCell ⟨N,5,none⟩ (.slice (some ⟨gl,0,none⟩) keys.length keys.length)):=Moved.setCell (S:=λg=>g=N) (p:=⟨N,5,none⟩) (Moved.setCell (S:=λg=>g=N) (p:=⟨N,4,none⟩) (Moved.refl _ wr) (λ_=>rfl) _) (λ_=>rfl) _;have hsz:wr.heap.size≤((wr.setCell ⟨N,4,none⟩ (.slice (some ⟨gk,0,none⟩) keys.length keys.length)).setCell ⟨N,5,none⟩ (.slice (some ⟨gl,0,none⟩) keys.length keys.length)).heap.size:=hmv.size
    have hbN:((wr.setCell ⟨N,4,none⟩ (.slice (some ⟨gk,0,none⟩) keys.length keys.length)).setCell ⟨N,5,none⟩ (.slice (some ⟨gl,0,none⟩) keys.length keys.length)).heap[N]? = some (.cells #[.int .i64 17,.int .i64 n,.int .u64 u,.string s,.slice (some ⟨gk,0,none⟩) keys.length keys.length,.slice (some ⟨gl,0,none⟩) keys.length keys.length] 26 (0,0)):=by
     have e1:=heap_setCell_same wr N 4 _ _ (.slice (some ⟨gk,0,none⟩) keys.length keys.length) HBN.out;have e2:=heap_setCell_same _ N 5 _ _ (.slice (some ⟨gl,0,none⟩) keys.length keys.length) e1;simpa using e2
    generalize ((wr.setCell ⟨N,4,none⟩ (.slice (some ⟨gk,0,none⟩) keys.length keys.length)).setCell ⟨N,5,none⟩ (.slice (some ⟨gl,0,none⟩) keys.length keys.length))=wc at *;have hNN:=HN.out;have hgr:jC w wc:=Moved.fresh HGR.out hmv (λg e=>by rw[e];exact Nat.le_of_eq hNN);have hS:=HSW.out;have hS':=HD.2.2.2;have hl2:=HKL2.out;obtain⟨f1,f2,f3,f4,f5,f6,f7,f8⟩:=HFK.out;refine⟨p.map λx=>keys.getD x.1 ⟨#[]⟩,p.map λx=>l.getD x.1 (.mk 0 0 0 ⟨#[]⟩ [] []),p.map λx=>vs.getD x.1 zC,.slice (some ⟨gk,0,none⟩) keys.length keys.length,.slice (some ⟨gl,0,none⟩) keys.length keys.length,BU hl2 HP.out HPS.out _ _,?_,?_,?_,?_,?_,?_,?_,?_,?_,?_,?_,hgr⟩
    ·refine DK λx hx=>?_;obtain⟨i,_,rfl⟩:=qh.1 hx;have hi:i.1 < l.length:=(by have:=i.2;omega);rw[zw,za hi];exact DH HOK.2 (xq hi)
    ·intro x hx;obtain⟨i,_,rfl⟩:=qh.1 hx;have hi:i.1 < l.length:=(by have:=i.2;omega);rw[zw,za hi];exact HSZ.out _ (xq hi)
    ·rw[qb,hpl];exact hok2
    ·intro x hx;obtain⟨i,_,rfl⟩:=qh.1 hx;rw[zw,za i.2];exact HB.2.2.2.2 _ (xq i.2)
    ·rw[hNN];exact hbN
    ·rw[hNN];exact hmv.heap HB1.out zo
    ·exact Moved.owns hmv kU.1 (λg hg e=>by simp[Value.ownBlock] at hg;omega)
    ·exact⟨Moved.owns hmv kU.2.1 (λg hg e=>by simp[Value.ownBlock] at hg;omega),kU.2.2⟩
    ·exact zH.perm (HOWN.2.2.grew hgr) hl2.symm HP.out _ _
    ·intro g hg;simp[Value.ownBlock] at hg;subst hg;refine⟨.inr ⟨f5,by omega⟩,λh=>?_,λe=>?_⟩
     ·have:=hS _ (hS' _ h);omega
     simp[Value.ownBlock] at e;exact HNE.out e.symm
    intro g hg;simp[Value.ownBlock] at hg;subst hg;refine⟨.inr ⟨f6,by omega⟩,λh=>?_,by omega,by omega⟩;have:=hS _ (hS' _ h);omega
   clear h1 h2 HR HW hpl;go_wp2_with fail
   go_meet
   case rel=>exact HM
 case rest=>
  obtain⟨keys3,l3,vs3,kv3,lv3,hst,hok,hsz,hl3,hlk,hbN,hbR,hkv,hlv,hkd,hk3,hl3b,hgw⟩:=hcut.out;clear hcut;obtain⟨a4',c4',rfl,_,_,_⟩:=jR hkv;obtain⟨a5',c5',rfl,hll,hlc,_⟩:=jR hlv.1;have hkl3:=hkd.length;rw[hkl3] at hlv hbN hk3 hl3b;have HST:=zh hst;have HOK3:=zh hok;have HSZ3:=zh hsz;have HLK:=zh hlk;have hNN:=HN.out;rw[hNN] at hbN hbR hl3b;have HBN:=zh hbN;have HBR:=zh hbR;have HKV:=zh hkv;have HLV:=zh hlv;have HKD:=zh hkd;have HK3:=zh hk3;have HL3:=zh hl3b;have HGW:=zh hgw;have HKL3:=zh hkl3;have d5:=jA hbN 5 _ rfl;clear hst hok hsz hlk hbN hbR hkv hlv hkd hk3 hl3b hgw hkl3 hll hlc hb1 hb2 hNN hok2 hok3;go_wp2_with fail;clear d5
  go_loopw [57] (λi wr=>∃q:Nat,q≤l3.length∧i=.int .i64 q∧Hid (LoopS wc wr B S' (.slice a5' l3.length c5') l3 q)) (λi _=>l3.length - (intOf i).toNat)
  case atStart=>
   refine⟨0,Nat.zero_le _,rfl,?_⟩;exact⟨[],vs3,λ_=>False,S',rfl,HLV.out,by simp[ZK,zH],by simpa using HKD.out,λ_ h=>h.elim,λ_ h=>h.elim,λ_ h=>h,Moved.refl _ _⟩
  case round=>
   obtain⟨q,hq,rfl,HW⟩:=hrel
   have HWF:Hid (wr.heap[N]? = some (.cells #[.int .i64 k,.int .i64 n,.int .u64 u,.string s,.slice a4' keys3.length c4',.slice a5' l3.length c5'] 26 (0,0))∧wr.heap[N+1]? = some (.cells #[.int .i64 0,.int .i64 0,.int .u64 0,.string ⟨#[]⟩,.slice none 0 0,.slice none 0 0] 26 (0,0))∧zG wr B (.slice a4' keys3.length c4') keys3):=by
    obtain⟨_,_,_,_,_,_,_,_,_,_,_,hm⟩:=HW.out;have hS:=HSW.out;have hS':=HD.2.2.2;have hN:=HN.out;refine⟨hm.heap HBN.out ?_,hm.heap HBR.out ?_,Moved.owns hm HKV.out ?_⟩
    ·rintro (h|h)
     ·have:=hS _ (hS' _ h);omega
     exact (HL3.out _ h).2.2.1 rfl
    ·rintro (h|h)
     ·have:=hS _ (hS' _ h);omega
     exact (HL3.out _ h).2.2.2 rfl
    rintro g hg (h|h)
    ·exact (HK3.out g hg).2.1 h
    exact (HK3.out g hg).2.2 h
   by_cases hlt:q < l3.length
   ·obtain⟨vs1,vs2,S1,S2,hq1,jK,hk1,hk2,hdis,hs1,hs2,hm⟩:=HW.out;obtain⟨x,hx⟩:∃x,l3[q]? = some x:=⟨_,za hlt⟩;obtain⟨hx0,hx1⟩:=zi.1 hx;have hdrop:l3.drop q=x::l3.drop (q+1):=(by rw[List.drop_eq_getElem_cons hlt,hx1]);rw[hdrop] at hk2;simp only[zH] at hk2;obtain⟨xv,vr,Sx,Sr,rfl,hSx,hSr,hxr,hox,hkr⟩:=hk2;have hxm:x∈l3:=qd hx
    obtain⟨gL,rfl⟩:∃g,a5'=some ⟨g,0,none⟩:=by
     rcases jK.1.2 with ⟨e,hn⟩|⟨g,cap,cur,e,_⟩
     ·simp at hn
     injection e with e1 _ _;exact⟨g,e1⟩
    have hVl:(vs1++xv::vr).length=l3.length:=by
     obtain⟨_,_,e,_⟩:=jR jK.1;injection e with _ e2 _;exact e2.symm
    have hVq:(vs1++xv::vr)[q]? = some xv:=(by rw[qs zo,hq1,yj];rfl);have h6:=hox.node6;have hc6:=jK.at hVq;have KP:=zh jK;have HQV:=zh (qa hq1 (qa hVl hVq));have HOX:=zh hox;have HK12:=zh (qa hk1 hkr);have HSS:=zh (qa hdis (qa hs1 (qa hs2 (qa hSx (qa hSr hxr)))));have HM:=zh hm
    have HTK:Hid (ZK (l3.take (q+1))=ZK (l3.take q)++[zP x]):=by
     show _=_;rw[qo,hx,yW,yW,xb];rfl
    have HXZ:=zh (qa (HSZ3.out x hxm) (DH HOK3.out hxm));clear hq1 hVl hVq jK hox hk1 hkr hdis hs1 hs2 hSx hSr hxr hm hx hx0 hx1 hdrop hxm HW;obtain⟨yk,yn,yu,ys,ya4,yn4,yc4,ya5,yn5,yc5,rfl⟩:=h6;obtain⟨e0,e1,e2,e3,e4,e5⟩:=hc6.get;have d5:=jA HWF.1 5 _ rfl;have hlti:(q:Int) < l3.length:=(by omega);clear hc6;go_wp2_with fail;obtain⟨hbs,hgs⟩:=sqal wr (.cells #[.int .i64 yk,.int .i64 yn,.int .u64 yu,.string ys,.slice ya4 yn4 yc4,.slice ya5 yn5 yc5] 26);generalize wr.alloc _=ws at *;replace d5:=hgs.cell d5;obtain⟨NB,hNB⟩:∃NB,wr.heap.size=NB:=⟨_,rfl⟩;rw[hNB] at hbs⊢;obtain⟨b0,b1,b2,b3,b4,b5⟩:=sqr6 hbs;have HGS:=zh (qa hgs (qa hNB hbs));have kU:=zh (KP.grew hgs);have HOXS:=zh (HOX.grew hgs);obtain⟨VV,hVV⟩:∃VV,vs1++.agg #[.int .i64 yk,.int .i64 yn,.int .u64 yu,.string ys,.slice ya4 yn4 yc4,.slice ya5 yn5 yc5]::vr=VV:=⟨_,rfl⟩;have HVV:=zh hVV;rw[hVV] at kU
    have HQ2:Hid (q < VV.length∧VV[q]? = some (.agg #[.int .i64 yk,.int .i64 yn,.int .u64 yu,.string ys,.slice ya4 yn4 yc4,.slice ya5 yn5 yc5])):=by
     have:=HQV.out;rw[hVV] at this;exact⟨by omega,this.2.2⟩
    have HSB:Hid ((∀g,Sx g→g < wr.heap.size)∧¬Sx gL∧¬Sx N∧¬Sx NB∧gL≠N∧gL≠NB∧gL < wr.heap.size):=by
     have hS:=HSW.out;have hS':=HD.2.2.2;have hN:=HN.out;have hL:=HL3.out gL rfl;have hlt:=(qm KP.1 gL rfl).2;have hsx:∀g,Sx g→g < w.heap.size:=λg h=>hS _ (hS' _ (HSS.2.2.1 _ (HSS.2.2.2.1 _ h)));have hNw:N < wr.heap.size:=(zc.1 HWF.1).1;refine⟨λg h=>?_,λh=>?_,λh=>?_,λh=>?_,hL.2.2.1,by omega,hlt⟩
     ·have:=hsx g h;omega
     ·exact hL.2.1 (HSS.2.2.1 _ (HSS.2.2.2.1 _ h))
     ·have:=hsx _ h;omega
     have:=hsx _ h;omega
    have HGWR:Hid (w.heap.size≤wr.heap.size):=zf HGW.size HM.size;clear hVV hbs hgs hNB e0 e1 e2 e3 e4 e5;have n1:¬(Sx N∨N=gL):=(by have h:=HSB.out;rintro (e | e);exact h.2.2.1 e;exact h.2.2.2.2.1 e.symm);have n2:¬(Sx NB∨NB=gL):=(by have h:=HSB.out;rintro (e | e);exact h.2.2.2.1 e;exact h.2.2.2.2.2.1 e.symm);refine dJ (Moved (λg=>Sx g∨g=gL)) 4 (λw=>w.heap.size=ws.heap.size∧qA w B x (.agg #[.int .i64 yk,.int .i64 yn,.int .u64 yu,.string ys,.slice ya4 yn4 yc4,.slice ya5 yn5 yc5]) Sx∧yM w B (.slice (some ⟨gL,0,none⟩) l3.length c5') VV) (u9q ws.heap.size B Sx gL l3.length c5' q) [[],[0],[],[],[3],[1,2],[4,5]] [[(64,2),(65,3),(66,4),(67,5)],[(62,0),(64,2),(65,3),(66,4)],[(62,0),(63,1),(65,3),(66,4)],[(62,0),(63,1),(64,2),(67,5)],[(62,0),(63,1),(64,2),(65,3),(67,5)],[(62,0),(63,1),(64,2),(65,3),(66,4)],[(62,0),(63,1),(64,2),(65,3),(66,4),(67,5)]] [(62,0),(63,1),(64,2),(65,3),(66,4),(67,5)]
     [λy v w=>v=.pointer (some ⟨N,5,none⟩),λy v w=>v=.slice (some ⟨gL,0,none⟩) l3.length c5',λy v w=>v=.int .i64 q,λy v w=>v=.agg #[.int .i64 yk,.int .i64 yn,.int .u64 yu,.string ys,.slice ya4 yn4 yc4,.slice ya5 yn5 yc5],λy v w=>wF ws.heap.size B Sx gL l3.length c5' q VV x v w,λy v w=>v=.pointer (some ⟨gL,q*6,none⟩),λy v w=>ws.heap.size < w.heap.size∧yM w B (.slice (some ⟨gL,0,none⟩) l3.length c5') (VV.set q (y 4))]
     zk Moved.trans' (Moved.refl _) wE (λ_ _=>.inl rfl) (λi hi w w' ht h=>EX hi ht h) ⟨rfl,HOXS.grew (jC.refl _).drew,kU.grew (jC.refl _).drew⟩ (Moved.of_grew (jC.refl _).drew) zk
     ⟨λ_ _ _ _ _ _ _ h=>h,λ_ _ _ _ _ _ _ h=>h,λ_ _ _ _ _ _ _ h=>h,λ_ _ _ _ _ _ _ h=>h,λi hi y v w w' ht h=>wF.step HQ2.1 ⟨HSB.2.1,qk HSB.2.2.2.2.2.2 HGS.1.size⟩ hi ht h,λ_ _ _ _ _ _ _ h=>h,λi hi y v w w' ht h=>EW hi ht h,trivial⟩
     ⟨λ_ _ _ _ _ h=>h,λ_ _ _ _ _ h=>h,λ_ _ _ _ _ h=>h,λ_ _ _ _ _ h=>h,λ_ _ _ _ _ h=>h,λ_ _ _ _ _ h=>h,λy y' v w e h=>by have h4:=e 4 zd;show ws.heap.size < w.heap.size∧yM w B (.slice (some ⟨gL,0,none⟩) l3.length c5') (VV.set q (y' 4));rw[← h4];exact h,trivial⟩
     ⟨?_,?_,?_,?_,?_,?_,?_,trivial⟩ rfl ?_
    ·exact zb37
    ·intro y w2 hG hI hD K hK;simp only[lG,zq4,zq5,and_true] at hD;clear hI;simp only[jF,Act.put,zq] at hK⊢;simp only[hD] at hK⊢;clear hD;refine jN ?_;have dd:=hG.cell d5 n1;go_simp;exact hK _ _ _ rfl (.inl rfl) rfl
    ·exact zb37
    ·intro y w2 hG hI hD K hK;clear hI;simp only[jF,Act.put,zq] at hK⊢;refine jN ?_;have dd0:=hG.cell b0 n2;have dd1:=hG.cell b1 n2;have dd2:=hG.cell b2 n2;have dd3:=hG.cell b3 n2;have dd4:=hG.cell b4 n2;have dd5:=hG.cell b5 n2;go_simp;exact hK _ _ _ rfl (.inl rfl) rfl
    ·intro y w2 hG hI hD K hK;simp only[lG,zq4,zq5,and_true] at hD;simp only[jF,Act.put,zq] at hK⊢;simp only[hD] at hK⊢;clear hD;refine jN ?_;have hI':=hI rfl;go_simp;refine (HIH.out x HXZ.1 HXZ.2 _ w2 B Sx hI'.2.1 (zf HBW.out (zf HGWR.out (zf HGS.1.size (Nat.le_of_eq hI'.1.symm)))) (λg hg=>qk (HSB.1 g hg) (zf HGS.1.size (Nat.le_of_eq hI'.1.symm)))).mono ?_;rintro r w3 ⟨yv,Sy,rfl,ho,hm,hgt,hf⟩;have hrw:yM w3 B (.slice (some ⟨gL,0,none⟩) l3.length c5') VV:=⟨Moved.owns hm hI'.2.2.1 (λg hg e=>by simp[Value.ownBlock] at hg;subst hg;exact HSB.2.1 e),hI'.2.2.2⟩;rw[← LM HQ2.2] at hrw;exact hK _ _ _ rfl (.inr (.inl ⟨rfl,hI'.1,hm,hgt⟩)) ⟨by have:=hI'.1;omega,⟨Sy,ho,λg hg=>(hf g hg).imp id λh=>⟨by have:=hI'.1;have:=h.1;omega,h.2⟩⟩,_,hrw⟩
    ·intro y w2 hG hI hD K hK;simp only[lG,zq4,zq5,and_true] at hD;clear hI;simp only[jF,Act.put,zq] at hK⊢;simp only[hD] at hK⊢;clear hD;refine jN ?_;go_simp;exact hK _ _ _ rfl (.inl rfl) rfl
    ·intro y w2 hG hI hD K hK;simp only[lG,zq4,zq5,and_true] at hD;have h4:=hD.1;clear hI;simp only[jF,Act.put,zq] at hK⊢;simp only[hD] at hK⊢;clear hD;refine jN ?_;have hd4:=h4;obtain⟨hW,⟨Sy,ho,hs⟩,z,hz⟩:=hd4;obtain⟨zk,zn,zu,zs,za4,zn4,zc4,za5,zn5,zc5,hy4⟩:=ho.node6;rw[hy4] at hK ho⊢;have hzl:q < (VV.set q z).length:=(by rw[yf];exact HQ2.1);have hzq:(VV.set q z)[q]? = some z:=List.getElem?_set_self HQ2.1;obtain⟨z0,z1,z2,z3,z4,z5,e6,cc0,cc1,cc2,cc3,cc4,cc5⟩:=hz.at hzq;have ff0:=hz.frozen (q*6);have ff1:=hz.frozen (q*6+1);have ff2:=hz.frozen (q*6+2);have ff3:=hz.frozen (q*6+3);have ff4:=hz.frozen (q*6+4);have ff5:=hz.frozen (q*6+5);have hstep:∀vs,q < vs.length→yM w2 B (.slice (some ⟨gL,0,none⟩) l3.length c5') vs→yM _ B (.slice (some ⟨gL,0,none⟩) l3.length c5') (vs.set q _):=λvs hv h=>yM.stored h hv (x:=.agg #[.int .i64 zk,.int .i64 zn,.int .u64 zu,.string zs,.slice za4 zn4 zc4,.slice za5 zn5 zc5]) ⟨_,_,_,_,_,_,_,_,_,_,rfl⟩ rfl;have hst2:=hstep _ hzl hz;rw[List.set_set] at hst2;have hmv:=pE w2 gL (q*6) (.int .i64 zk) (.int .i64 zn) (.int .u64 zu) (.string zs) (.slice za4 zn4 zc4) (.slice za5 zn5 zc5);go_simp;refine hK _ undef _ rfl (.inr (.inr ⟨rfl,hW,hmv.size,hmv,_,⟨_,_,_,_,_,_,_,_,_,_,rfl⟩,hstep⟩)) ⟨qk hW hmv.size,?_⟩;exact hst2
    intro y w2 hG hF;simp only[rY,and_true,Nat.reduceAdd] at hF;have h0:=hF.1;have h1:=hF.2.1;have h2:=hF.2.2.1;have h3:=hF.2.2.2.1;have h4:=hF.2.2.2.2.1;have h5:=hF.2.2.2.2.2.1;have h6:=hF.2.2.2.2.2.2;clear hF;simp only[jF,Act.put,zq];rw[h0,h1,h2,h3,h5];clear h0 h1 h2 h3 h5;obtain⟨hW,⟨Sy,ho,hs⟩,_⟩:=h4;have jK:=h6.2;clear h6;obtain⟨zk,zn,zu,zs,za4,zn4,zc4,za5,zn5,zc5,hy4⟩:=ho.node6;rw[hy4] at ho jK⊢;clear hy4
    have HNX:Hid (LoopS wc w2 B S' (.slice (some ⟨gL,0,none⟩) l3.length c5') l3 (q+1)):=by
     have hv:=HVV.out;obtain⟨hq1,hVl,hVq⟩:=HQV.out;obtain⟨hdis,hs1,hs2,hSx,hSr,hxr⟩:=HSS.out;have hgs:=HGS.1;have hmw:=HM.out;have hgL:=HL3.out gL rfl;have hm2:Moved (λg=>Sx g∨g=gL) wr w2:=(Moved.of_grew hgs).trans' hG;have hW':w.heap.size≤wr.heap.size:=HGWR.out;have hwc:wc.heap.size≤wr.heap.size:=hmw.size;have hS':∀g,S' g→g < wr.heap.size:=λg h=>by have:=HSW.out _ (HD.2.2.2 _ h);omega
     have hS1:∀g,S1 g→g < wr.heap.size:=λg h=>(hs1 g h).elim (hS' g) (λh=>h.2);have hL1:¬S1 gL:=λh=>(hs1 _ h).elim hgL.2.1 (λh=>by have:=(qm HLV.1 gL rfl).2;have:=h.1;omega);have hL2:¬Sr gL:=λh=>hgL.2.1 (hs2 _ (hSr _ h));refine⟨vs1++[.agg #[.int .i64 zk,.int .i64 zn,.int .u64 zu,.string zs,.slice za4 zn4 zc4,.slice za5 zn5 zc5]],vr,λg=>S1 g∨Sy g,Sr,by rw[zb];simp[hq1],?_,?_,?_,?_,?_,λg h=>hs2 g (hSr g h),?_⟩
     ·rw[← hv,List.set_append_right _ _ zo,hq1,yj,zq2] at jK;simpa using jK
     ·rw[HTK];refine zH.app (HK12.1.kept hm2 (λg h e=>?_)) (zH.one ho) (λg h1 h2=>?_)
      ·rcases e with e|e
       ·exact hdis g h (hSx g e)
       subst e;exact hL1 h
      rcases hs g h2 with e|e
      ·exact hdis g h1 (hSx g e)
      have:=hS1 g h1;have:=hgs.size;have:=e.1;omega
     ·refine HK12.2.kept hm2 (λg h e=>?_);rcases e with e|e
      ·exact hxr g e h
      subst e;exact hL2 h
     ·rintro g (h|h) h2
      ·exact hdis g h (hSr g h2)
      rcases hs g h with e|e
      ·exact hxr g e h2
      have:=hS' g (hs2 g (hSr g h2));have:=hgs.size;have:=e.1;omega
     ·rintro g (h|h)
      ·exact (hs1 g h).imp id (λh=>⟨h.1,qk h.2 hm2.size⟩)
      rcases hs g h with e|e
      ·exact .inl (hs2 g (hSx g e))
      exact .inr ⟨by have:=hgs.size;have:=e.1;omega,e.2⟩
     refine hmw.trans' (hm2.mono (λg _ h=>?_));rcases h with e|e
     ·exact .inl (hs2 g (hSx g e))
     exact .inr (by rw[e];rfl)
    clear hs ho jK hG b0 b1 b2 b3 b4 b5 d5 n1 n2;go_wp2_with fail;go_roundw
    case rel=>exact⟨q+1,by omega,by go_num,HNX⟩
    case measure=>simp[intOf];omega
   obtain rfl:q=l3.length:=(by omega);have hlN:N+1 < wc.heap.size:=(zc.1 HBR.out).1;have hfin:=sR (T:=.mk k n u s keys l) HST.out ⟨HB.1,HB.2.1,HB.2.2.1,HB.2.2.2.1⟩ HLK.out HN.out HGW.out HKV.out (λg hg=>(qm HLV.1 g hg).2) HK3.out HL3.out HD.2.2.2 HSW.out hlN HWF.2.1 HWF.2.2 HW.out;have HFIN:=zh hfin;clear hfin;have jK:=HWF.1;have j7:=HWF.2.1;have r0:=jE j7 0;have r1:=jE j7 1;have r2:=jE j7 2;have r3:=jE j7 3;have r4:=jE j7 4;have r5:=jE j7 5;obtain⟨d0,d1,d2,d3,d4,d5⟩:=sqr6 jK;obtain⟨z0,z1,z2,z3,z4,z5⟩:=sqr6 j7;clear jK j7 HW;go_wp2_with fail;refine bodyPost_ret (v:=.agg #[.int .i64 k,.int .i64 n,.int .u64 u,.string s,.slice a4' keys3.length c4',.slice a5' l3.length c5']) (by simp[results,results43,go_sem,z0,z1,z2,z3,z4,z5]) rfl ?_;obtain⟨S'',hh⟩:=HFIN.out;exact⟨_,S'',rfl,hh⟩
def Nd (t:Tr) (v:Value) (w:World):Prop:=jM w t v
theorem Nd.st (t:Tr):∀v w w',jC w w'→Nd t v w→Nd t v w':=λ_ _ _ hg h=>jM.grew hg h
def Ss (l:List ByteArray) (v:Value) (w:World):Prop:=zB w v l
theorem Ss.st (l:List ByteArray):∀v w w',jC w w'→Ss l v w→Ss l v w':=λ_ _ _ hg h=>zB.grew h hg
def Rn (ts:List Tr) (v:Value) (w:World):Prop:=∃vs,y9 w v vs∧kZ w ts vs
theorem Rn.st (ts:List Tr):∀v w w',jC w w'→Rn ts v w→Rn ts v w':=λ_ _ _ hg ⟨vs,h,k⟩=>⟨vs,h.grew hg,k.grew hg⟩
theorem zB.form {v:Value} {l:List ByteArray} (h:zB w v l):∃a c,v=.slice a l.length c:=by
 obtain⟨a,c,e,_⟩:=h;exact⟨a,c,e⟩
theorem zB.nil (w:World):zB w (.slice none 0 0) []:=⟨none,0,rfl,by simp,by unfold kI;omega,λ_=>rfl,by simp⟩
theorem y9.nil (w:World):y9 w (.slice none 0 0) []:=⟨none,0,rfl,by simp,by unfold kI;omega,λ_=>rfl,by simp⟩
theorem fI.nil (w:World):fI w (.slice none 0 0) []:=⟨none,0,rfl,by simp,by unfold kI;omega,λ_=>rfl,by simp⟩
theorem l7 (w:World) (l:List ByteArray) (hz:∀s∈l,kI s.size) (hl:l.length≤4096):Ss l (.slice (some ⟨w.heap.size,0,none⟩) l.length l.length) (w.alloc (.cells (l.map Value.string).toArray 9)):=by
 refine⟨some ⟨w.heap.size,0,none⟩,l.length,rfl,zr _,by unfold kI;omega,λh=>gN,λi s hs=>⟨hz s (qd hs),w.heap.size,0,rfl,?_⟩⟩;rw[cell_of_row _ _ _ _ _ _ (qc _ _)];simp[hs]
theorem KV (w:World) (ts:List Tr) (vs:List Value) (h6:∀x∈vs,QV x) (hk:kZ w ts vs) (hl:vs.length≤4096):Rn ts (.slice (some ⟨w.heap.size,0,none⟩) vs.length vs.length) (w.alloc (.cells (vs.flatMap vO).toArray 26)):=by
 refine⟨vs,⟨some ⟨w.heap.size,0,none⟩,vs.length,rfl,zr _,by unfold kI;omega,λh=>gN,λi x hx=>⟨w.heap.size,0,rfl,?_⟩⟩,hk.grew ((jC.refl _).alloc _)⟩
 have hr:∀o,(w.alloc (.cells (vs.flatMap vO).toArray 26)).cell? ⟨w.heap.size,o,none⟩=(vs.flatMap vO)[o]? := λo=>by
  rw[cell_of_row _ _ _ _ _ _ (qc _ _)];simp
 obtain⟨k,n,u,s,a4,n4,c4,a5,n5,c5,rfl⟩:=h6 x (qd hx);refine⟨_,_,_,_,_,_,rfl,?_,?_,?_,?_,?_,?_⟩<;>rw[hr,Nat.zero_add]
 ·exact ZN h6 hx 0 zd
 ·exact ZN h6 hx 1 zd
 ·exact ZN h6 hx 2 zd
 ·exact ZN h6 hx 3 zd
 ·exact ZN h6 hx 4 zd
 exact ZN h6 hx 5 zd
theorem wI (h:Ss keys kv w) (h2:Rn l lv w):Nd (.mk 17 0 0 ⟨#[]⟩ keys l) (.agg #[.int .i64 17,.int .i64 0,.int .u64 0,.string ⟨#[]⟩,kv,lv]) w:=by
 obtain⟨vs,h3,h4⟩:=h2;exact⟨⟨by unfold kY;omega,by unfold kY;omega,by unfold KG;omega,by unfold kI;decide⟩,kv,lv,vs,rfl,h,h3,h4⟩
def KN (l:List ByteArray):List Int × Int:=if l.Nodup then ((vW (l.zip (List.range l.length))).map (λp=>(p.2:Int)),0) else ([],71)
theorem pH {l:List ByteArray} {r:Ending} (hl:l.length≤65536) (h:uU w l r w'):jC w w'∧∃v,r=.returned (.tuple #[v,.int .i64 (KN l).2])∧fI w' v (KN l).1:=by
 obtain⟨hg,⟨hn,rfl⟩|⟨hn,v,rfl,blk,cap,p,rfl,hp,hs,hc,rfl⟩⟩:=h
 ·have e:KN l=([],71):=by unfold KN;rw[ze hn]
  rw[e];exact⟨hg,_,rfl,fI.nil _⟩
 have e:KN l=((vW (l.zip (List.range l.length))).map (λp=>(p.2:Int)),0):=by unfold KN;rw[zl hn]
 have h1:=lX (l:=List.range l.length) zp2 hp hs (⟨#[]⟩,0)
 have h2:(vW (l.zip (List.range l.length))).map (λp=>(p.2:Int))=p.map λx=>((x.1:Nat):Int):=by
  rw[← h1,xe];refine List.map_congr_left λx hx=>?_;simp[zw,x.2]
 rw[e,h2];refine⟨hg,_,rfl,some ⟨blk,0,none⟩,l.length,by simp[QX hp],by simp[QX hp],by unfold kI;omega,λh=>gN,λi x hx=>?_⟩
 rw[xj] at hx
 cases hq:p[i]? with
 | none=>rw[hq] at hx;cases hx
 | some q=>
  rw[hq] at hx;cases hx;exact⟨trivial,blk,0,rfl,by rw[Nat.zero_add];exact hc i q hq⟩
def bM (w:World) (t:Tr) (r:Ending) (w':World):Prop:=
 jC w w'∧((JZ t≠0∧r=.returned (.tuple #[zC,.int .i64 (JZ t)]))∨(JZ t=0∧∃v S,r=.returned (.tuple #[v,.int .i64 0])∧qA w' w.heap.size (zP t) v S∧∀g,S g→JB w w' g))
theorem l8 (t:Tr) (v:Value) (w:World) (hn:jM w t v) (hsz:t.size≤1099511627776):Calls prog 14 #[v] w λr w'=>bM w t r w':=by
 have HC:=zh hn;obtain⟨k,n,u,s,a4,n4,c4,a5,n5,c5,rfl⟩:=hn.node6;obtain⟨N,hN⟩:∃N,w.heap.size=N:=⟨_,rfl⟩;go_enter func14,ntmps14;go_wp2_with fail;obtain⟨hb1,hg1⟩:=sqal w (.cells #[.int .i64 k,.int .i64 n,.int .u64 u,.string s,.slice a4 n4 c4,.slice a5 n5 c5] 26);have hs1:(w.alloc (.cells #[.int .i64 k,.int .i64 n,.int .u64 u,.string s,.slice a4 n4 c4,.slice a5 n5 c5] 26)).heap.size=w.heap.size+1:=zm _ _;generalize w.alloc _=w1 at *;obtain⟨hb2,hg2⟩:=sqal w1 (.cells #[.int .i64 0,.int .i64 0,.int .u64 0,.string ⟨#[]⟩,.slice none 0 0,.slice none 0 0] 26);rw[hs1,hN] at hb2;generalize w1.alloc _=w2 at *;rw[hN] at hb1;replace hb1:=hg2.heap hb1;have hG:=hg1.trans hg2;have HN:=zh hN;clear hs1 hg1 hg2 hn hN;refine (BT t _ _ (HC.grew hG) hsz).mono ?_;rintro r w3 ⟨rfl,hg3⟩;replace hG:=hG.trans hg3;replace hb1:=hg3.heap hb1;replace hb2:=hg3.heap hb2;clear hg3;have HG:=zh hG;have HB:=zh (qa hb1 hb2);clear hG;obtain⟨d0,d1,d2,d3,d4,d5⟩:=sqr6 hb1;obtain⟨z0,z1,z2,z3,z4,z5⟩:=sqr6 hb2;have f0:=jE hb2 0;have f1:=jE hb2 1;have f2:=jE hb2 2;have f3:=jE hb2 3;have f4:=jE hb2 4;have f5:=jE hb2 5;clear hb1 hb2;obtain⟨e,he⟩:∃e,JZ t=e:=⟨_,rfl⟩;have HE:=zh he;rw[he];by_cases h0:e=0
 ·subst h0;have hok:=pC he;have HOK:=zh hok;clear he hok;go_wp2_with fail;refine (dN t.size t (zr _) _ _ (HC.grew HG.out) (DI HOK.1)).mono ?_;rintro r w4 ⟨v4,rfl,ho4,hg4⟩;have HO4:=zh ho4;have HG4:=zh hg4;obtain⟨k',n',u',s',a4',n4',c4',a5',n5',c5',rfl⟩:=ho4.node6;clear ho4 hg4 z0 z1 z2 z3 z4 z5 f0 f1 f2 f3 f4 f5;go_wp2_with fail;refine (wH t.size t (zr _) HOK.1 _ w4 w3.heap.size _ HO4.out HG4.size (λg hg=>hg.2)).mono ?_;rintro r w5 ⟨v5,S5,rfl,ho5,hm5,hz5,hf5⟩;have hg5:jC w3 w5:=Moved.fresh HG4.out hm5 (λg hg=>hg.1);obtain⟨k5,n5',u5,s5,a45,n45,c45,a55,n55,c55,rfl⟩:=ho5.node6;have hb1:=hg5.heap HB.1;have hb2:=hg5.heap HB.2;obtain⟨z0,z1,z2,z3,z4,z5⟩:=sqr6 hb2;have f0:=jE hb2 0;have f1:=jE hb2 1;have f2:=jE hb2 2;have f3:=jE hb2 3;have f4:=jE hb2 4;have f5:=jE hb2 5
  have HFIN:Hid (bM w t (.returned (.tuple #[.agg #[.int .i64 k5,.int .i64 n5',.int .u64 u5,.string s5,.slice a45 n45 c45,.slice a55 n55 c55],.int .i64 0])) (kW w5 (N+1) (.int .i64 k5) (.int .i64 n5') (.int .u64 u5) (.string s5) (.slice a45 n45 c45) (.slice a55 n55 c55))):=by
   have hN:=HN.out;have h3:N+1 < w3.heap.size:=(zc.1 HB.2).1;have h4:=HG4.size;have hT:Moved (λk=>k=N+1) w5 (kW w5 (N+1) (.int .i64 k5) (.int .i64 n5') (.int .u64 u5) (.string s5) (.slice a45 n45 c45) (.slice a55 n55 c55)):=yJ w5 (N+1) (.int .i64 k5) (.int .i64 n5') (.int .u64 u5) (.string s5) (.slice a45 n45 c45) (.slice a55 n55 c55);have hsz:=hT.size;refine⟨Moved.fresh (HG.trans hg5) hT (λg e=>by omega),.inr ⟨HE.out,_,S5,rfl,(ho5.kept hT (λg hg e=>?_)).base HG.size,λg hg=>?_⟩⟩
   ·rcases hf5 g hg with h|h
    ·have:=h.1;omega
    have:=h.1;omega
   have h6:=HG.size;rcases hf5 g hg with h|h
   ·exact⟨by have:=h.1;omega,by have:=h.2;omega⟩
   exact⟨by have:=h.1;omega,by have:=h.2;omega⟩
  clear hb1 hb2 ho5 hm5 hz5 hf5 hg5;go_wp2_with fail;refine bodyPost_ret (v:=.tuple #[.agg #[.int .i64 k5,.int .i64 n5',.int .u64 u5,.string s5,.slice a45 n45 c45,.slice a55 n55 c55],.int .i64 0]) (by simp[results,results14,go_sem,z0,z1,z2,z3,z4,z5]) rfl ?_;exact HFIN.out
 have hb:(e == 0)=false:=by simpa using h0
 have H0:=zh h0;clear he h0
 have HFIN:Hid (bM w t (.returned (.tuple #[.agg #[.int .i64 0,.int .i64 0,.int .u64 0,.string ⟨#[]⟩,.slice none 0 0,.slice none 0 0],.int .i64 e])) (kW w3 (N+1) (.int .i64 0) (.int .i64 0) (.int .u64 0) (.string ⟨#[]⟩) (.slice none 0 0) (.slice none 0 0))):=by
  have hN:=HN.out;have hT:=yJ w3 (N+1) (.int .i64 0) (.int .i64 0) (.int .u64 0) (.string ⟨#[]⟩) (.slice none 0 0) (.slice none 0 0);exact⟨Moved.fresh HG.out hT (λg e=>by omega),.inl ⟨by rw[HE];exact H0.out,by rw[HE];rfl⟩⟩
 go_wp2_with fail;refine bodyPost_ret (v:=.tuple #[.agg #[.int .i64 0,.int .i64 0,.int .u64 0,.string ⟨#[]⟩,.slice none 0 0,.slice none 0 0],.int .i64 e]) (by simp[results,results14,go_sem,z0,z1,z2,z3,z4,z5]) rfl ?_;exact HFIN.out
theorem EZ (h:zD t=true):1≤t.kind∧t.kind≤17:=by
 cases t;simp only[zD,zg,zp] at h;exact h.1.1.1.1.1.1.1.1
mutual
def Y9 (b:Nat):Tr→Prop | .mk k n u s keys l=>b < 64∧zD (.mk k n u s keys l)=true∧qH (.mk k n u s keys l)=0∧wJ (b+1) l
def wJ (b:Nat):List Tr→Prop | []=>True | t::r=>Y9 b t∧wJ b r
end
theorem valL_iff {b:Nat}:∀{l:List Tr},wJ b l↔∀x∈l,Y9 b x
 | []=>by simp[wJ]
 | t::r=>by simp[wJ,valL_iff (l:=r)]
mutual
theorem val_pre {b:Nat}:∀{t:Tr},Y9 b t↔∀p∈vP b t,p.1 < 64∧zD p.2=true∧qH p.2=0
 | .mk k n u s keys l=>by
  simp only[Y9,vP,qp,forall_eq_or_imp];rw[wK (b:=b+1) (l:=l)];exact⟨λh=>⟨⟨h.1,h.2.1,h.2.2.1⟩,h.2.2.2⟩,λh=>⟨h.1.1,h.1.2.1,h.1.2.2,h.2⟩⟩
theorem wK {b:Nat}:∀{l:List Tr},wJ b l↔∀p∈JL b l,p.1 < 64∧zD p.2=true∧qH p.2=0
 | []=>by simp[wJ,JL]
 | t::r=>by
  simp only[wJ,JL,xf];rw[val_pre (t:=t),wK (l:=r)];exact⟨λh p hp=>hp.elim (h.1 p) (h.2 p),λh=>⟨λp hp=>h p (.inl hp),λp hp=>h p (.inr hp)⟩⟩
end
theorem pI:∀(ps:List (Nat × Tr)) (c:Nat),c+ps.length≤4096→(∀p∈ps,p.1 < 64∧zD p.2=true∧qH p.2=0)→ZQ c ps=0
 | [],_,_,_=>rfl
 | (b,x)::r,c,hc,h=>by
  have h0:=h (b,x) zp2;simp only[zz] at hc;simp only[ZQ];rw[ze zo,ze (by have:=h0.1;simp only at this;omega),ze (by have:=h0.2.1;simp only at this;rw[this];decide),ze (by have:=h0.2.2;simp only at this;rw[this];simp)];exact pI r (c+1) zo (λp hp=>h p (by simp[hp]))
theorem check_val:JZ t=0↔t.size≤4096∧Y9 0 t:=by
 constructor
 ·intro h;obtain⟨h1,h2⟩:=aG _ 0 h;refine⟨(pC h).2,val_pre.2 λp hp=>h2 p hp⟩
 rintro ⟨h1,h2⟩;refine pI _ 0 (by rw[vB];omega) (val_pre.1 h2)
theorem E3 (h:s.toList=[]):s=⟨#[]⟩:=by
 have h2:(s.toList == (⟨#[]⟩:ByteArray).toList)=true:=by rw[h];decide +kernel
 rw[cL] at h2;exact xo h2
theorem fM:∀(l had:List ByteArray),J7 had l=0↔(∀k∈l,JI k=false∧k∉had)∧l.Nodup
 | [],had=>by simp[J7]
 | k::r,had=>by
  simp only[J7];by_cases h1:JI k=true
  ·rw[zl h1];refine⟨λh=>absurd h zd,λh=>?_⟩;have:=(h.1 k zp2).1;rw[h1] at this;cases this
  rw[ze h1];by_cases h2:aE k had=true
  ·rw[zl h2];refine⟨λh=>absurd h zd,λh=>?_⟩;exact absurd ((fD k had).1 h2) (h.1 k zp2).2
  rw[ze h2,fM r (had++[k])];have h2':k∉had:=λh=>h2 ((fD k had).2 h);have h1':JI k=false:=(by simpa using h1);constructor
  ·rintro ⟨h3,h4⟩;refine⟨λq hq=>?_,List.nodup_cons.2 ⟨λhk=>?_,h4⟩⟩
   ·rcases qp.1 hq with rfl|hq
    ·exact⟨h1',h2'⟩
    exact⟨(h3 q hq).1,λh=>(h3 q hq).2 (by simp[h])⟩
   exact (h3 k hk).2 zp2
  rintro ⟨h3,h4⟩;obtain⟨h5,h6⟩:=List.nodup_cons.1 h4;refine⟨λq hq=>⟨(h3 q (by simp[hq])).1,λh=>?_⟩,h6⟩;rcases xf.1 h with h|h
  ·exact (h3 q (by simp[hq])).2 h
  simp at h;subst h;exact h5 hq
theorem BV {l m:List ByteArray} (h:l.Perm m) (hl:J7 [] l=0):J7 [] m=0:=by
 rw[fM] at hl⊢;exact⟨λk hk=>hl.1 k (h.mem_iff.2 hk),h.nodup_iff.1 hl.2⟩
theorem J9 {n:Int} (h:Y9 b (.mk k n u s keys l)) :
 (1≤k∧k≤17)∧(k≤9→l=[])∧(k≠17→keys=[])∧(k=17→keys.Nodup∧keys.length=l.length) ∧
 (k≠2→k≠3→k≠8→n=0)∧(k≠4→k≠9→u=0)∧(k≠5→k≠6→k≠7→s=⟨#[]⟩):=by
 obtain⟨h1,h2,h3,h4⟩:=h;have hk:=LJ h2 h3;have qG:=valL_iff.1 h4;simp only[zD,zg,zp,qv,Bool.not_eq_true'] at h2;obtain⟨⟨⟨⟨⟨⟨⟨⟨h17,hn⟩,hu⟩,hs⟩,hky⟩,_⟩,_⟩,_⟩,hoth⟩:=h2;refine⟨h17,λh9=>?_,hk.2,hk.1,λa b c=>?_,λa b=>?_,λa b c=>?_⟩
 ·cases l with
  | nil=>rfl
  | cons x r=>
   exfalso;have hx:=qG x zp2
   have hxk:1≤x.kind:=by
    cases x;obtain⟨_,hx2,_⟩:=hx;exact (EZ hx2).1
   have hp:YC k = -1:=by
    have:k=1∨k=2∨k=3∨k=4∨k=5∨k=6∨k=7∨k=8∨k=9:=(by omega);rcases this with e|e|e|e|e|e|e|e|e<;>(subst e;decide)
   rw[List.any_cons,Bool.or_eq_false_iff] at hoth;have:=hoth.1;rw[hp] at this;simp[qW] at this;omega
 ·rcases hn with h|h
  ·exfalso;have:k=1∨k=4∨k=5∨k=6∨k=7∨k=9∨k=10∨k=11∨k=12∨k=13∨k=14∨k=15∨k=16∨k=17:=by omega
   rcases this with e|e|e|e|e|e|e|e|e|e|e|e|e|e<;>(subst e;revert h;decide)
  exact h
 ·rcases hu with h|h
  ·exfalso;have:k=1∨k=2∨k=3∨k=5∨k=6∨k=7∨k=8∨k=10∨k=11∨k=12∨k=13∨k=14∨k=15∨k=16∨k=17:=by omega
   rcases this with e|e|e|e|e|e|e|e|e|e|e|e|e|e|e<;>(subst e;revert h;decide)
  exact h
 rcases hs with h|h
 ·exfalso;have:k=1∨k=2∨k=3∨k=4∨k=8∨k=9∨k=10∨k=11∨k=12∨k=13∨k=14∨k=15∨k=16∨k=17:=by omega
  rcases this with e|e|e|e|e|e|e|e|e|e|e|e|e|e<;>(subst e;revert h;decide)
 exact E3 h
theorem such_iff {n:Int}:zD (.mk k n u s keys l)=true ↔
 (1≤k∧k≤17)∧(k9 k=1∨n=0)∧(k9 k=2∨u=0)∧(k9 k=4∨s.toList=[])∧(k9 k=8∨keys.length=0)∧(k=2→n=0∨n=1)∧(k=17→keys.length=l.length)∧(k=15∨k=16→2≤l.length∧l.length≤4)∧∀x∈l,qW (YC k) x=false:=by
 simp only[zD,zg,zp,qv,Bool.not_eq_true',decide_eq_false_iff_not,List.any_eq_false,Bool.not_eq_true,Bool.or_eq_false_iff];constructor
 ·rintro ⟨⟨⟨⟨⟨⟨⟨⟨h1,h2⟩,h3⟩,h4⟩,h5⟩,h6⟩,h7⟩,h8⟩,h9⟩;exact⟨h1,h2,h3,h4,h5,by omega,by omega,by omega,h9⟩
 rintro ⟨h1,h2,h3,h4,h5,h6,h7,h8,h9⟩;exact⟨⟨⟨⟨⟨⟨⟨⟨h1,h2⟩,h3⟩,h4⟩,h5⟩,by omega⟩,by omega⟩,by omega⟩,h9⟩
theorem keyed_iff {n:Int}:qH (.mk k n u s keys l)=0↔¬(k=5∧JI s=true)∧J7 [] keys=0:=by
 simp only[qH];by_cases h:k=5∧JI s=true
 ·rw[zl h];simp[h]
 rw[ze h];simp[h]
theorem E4 (t:Tr):(zP t).kind=t.kind:=by
 cases t;simp only[zP];split<;>rfl
theorem BW {p:Int} {y:Tr} (h:x.kind=y.kind):qW p x=qW p y:=by simp[qW,h]
theorem dZ {α β:Type}:∀{a:List α} {b:List β},a.length=b.length→(a.zip b).map Prod.fst=a:=λh=>List.map_fst_zip zo
theorem DL {α β:Type}:∀{a:List α} {b:List β},a.length=b.length→(a.zip b).map Prod.snd=b:=λh=>List.map_snd_zip zo
theorem BX {a b:List Tr} (hp:a.Perm b):zY a=zY b:=by
 induction hp with
 | nil=>rfl
 | cons x _ ih=>simp only[zY,ih]
 | swap x y l=>simp only[zY];omega
 | trans _ _ h1 h2=>exact h1.trans h2
theorem pJ {f:Tr→Tr}:∀{l:List Tr},(∀x∈l,(f x).size=x.size)→zY (l.map f)=zY l
 | [],_=>rfl
 | t::r,h=>by simp only[List.map_cons,zY];rw[h t zp2,pJ (l:=r) λx hx=>h x oL]
theorem d8:∀(m:Nat) (t:Tr) (b:Nat),t.size≤m→Y9 b t→Y9 b (zP t)∧(zP t).size=t.size:=by
 intro m
 induction m with
 | zero=>intro t b h;have:=t.size_pos;omega
 | succ m ih=>
  intro t b h hv;obtain⟨k,n,u,s,keys,l⟩:=t;simp only[Tr.size] at h;have qG:=valL_iff.1 hv.2.2.2;have hk:∀x∈l,Y9 (b+1) (zP x)∧(zP x).size=x.size:=λx hx=>ih x (b+1) zp7 (qG x hx);obtain⟨h1,h2,h3,_⟩:=hv;rw[such_iff] at h2;rw[keyed_iff] at h3;obtain⟨s1,s2,s3,s4,s5,s6,s7,s8,s9⟩:=h2;have hsz:zY (l.map zP)=zY l:=pJ λx hx=>(hk x hx).2;simp only[zP];by_cases e:k=17
  ·rw[zl e];have kE:=s7 e;have hp:=qT (keys.zip (ZK l));have hl2:keys.length=(ZK l).length:=by rw[yW,qb];exact kE
   have hp1:=hp.map Prod.fst;have hp2:=hp.map Prod.snd;rw[dZ hl2] at hp1;rw[DL hl2] at hp2;refine⟨⟨h1,such_iff.2 ⟨s1,s2,s3,s4,s5.imp id (λh=>by rw[hp1.length_eq,h]),s6,λ_=>by rw[qb,qb],λh=>by omega,λx hx=>?_⟩,keyed_iff.2 ⟨h3.1,BV hp1.symm h3.2⟩,valL_iff.2 λx hx=>?_⟩,?_⟩
   ·subst e;simp[YC,qW]
   ·rw[hp2.mem_iff,yW,qh] at hx;obtain⟨y,hy,rfl⟩:=hx;exact (hk y hy).1
   simp only[Tr.size];rw[BX hp2,yW,hsz]
  rw[ze e,yW];refine⟨⟨h1,such_iff.2 ⟨s1,s2,s3,s4,s5,s6,λh=>absurd h e,by rw[qb];exact s8,λx hx=>?_⟩,keyed_iff.2 h3,valL_iff.2 λx hx=>?_⟩,?_⟩
  ·obtain⟨y,hy,rfl⟩:=qh.1 hx;rw[BW (E4 y)];exact s9 y hy
  ·obtain⟨y,hy,rfl⟩:=qh.1 hx;exact (hk y hy).1
  simp only[Tr.size,hsz]
def wL (t:Tr):Prop:=∀p∈vP 0 t,p.2.keys.Pairwise λx y=>ltS x y=true
theorem sS (b c:Nat):∀(t:Tr),(vP b t).map Prod.snd=(vP c t).map Prod.snd
 | .mk k n u s keys l=>by simp only[vP,List.map_cons];rw[pre_sndL (b+1) (c+1) l]
where pre_sndL (b c:Nat):∀(l:List Tr),(JL b l).map Prod.snd=(JL c l).map Prod.snd
 | []=>rfl
 | t::r=>by simp only[JL,xb];rw[sS b c t,pre_sndL b c r]
theorem mem_preL' {b:Nat} {p:Nat × Tr}:∀{l:List Tr},p∈JL b l↔∃x∈l,p∈vP b x
 | []=>by simp[JL]
 | t::r=>by simp[JL,mem_preL' (l:=r)]
theorem srt_any (b:Nat) (h:wL t):∀p∈vP b t,p.2.keys.Pairwise λx y=>ltS x y=true:=by
 intro p hp;have:p.2∈(vP 0 t).map Prod.snd:=by rw[sS 0 b];exact qh.2 ⟨p,hp,rfl⟩
 obtain⟨q,hq,e⟩:=qh.1 this;rw[← e];exact h q hq
theorem srt_of (h:∀p∈vP b t,p.2.keys.Pairwise λx y=>ltS x y=true):wL t:=by
 intro p hp;have:p.2∈(vP b t).map Prod.snd:=by rw[sS b 0];exact qh.2 ⟨p,hp,rfl⟩
 obtain⟨q,hq,e⟩:=qh.1 this;rw[← e];exact h q hq
theorem srt_iff {n:Int}:wL (.mk k n u s keys l)↔keys.Pairwise (λx y=>ltS x y=true)∧∀x∈l,wL x:=by
 constructor
 ·intro h;refine⟨h (0,.mk k n u s keys l) (by simp[vP]),λx hx=>srt_of (b:=1) λp hp=>h p ?_⟩;simp only[vP];exact zj _ (mem_preL'.2 ⟨x,hx,hp⟩)
 rintro ⟨h1,h2⟩ p hp;simp only[vP,qp] at hp;rcases hp with rfl|hp
 ·exact h1
 obtain⟨x,hx,hpx⟩:=mem_preL'.1 hp;exact srt_any 1 (h2 x hx) p hpx
theorem wM:∀(m:Nat) (t:Tr) (b:Nat),t.size≤m→Y9 b t→wL (zP t):=by
 intro m
 induction m with
 | zero=>intro t b h;have:=t.size_pos;omega
 | succ m ih=>
  intro t b h hv;have hn:=hv;obtain⟨k,n,u,s,keys,l⟩:=t;obtain⟨_,_,v3,v4,_⟩:=J9 hn;simp only[Tr.size] at h;have qG:=valL_iff.1 hv.2.2.2;have hk:∀x∈l,wL (zP x):=λx hx=>ih x (b+1) zp7 (qG x hx);simp only[zP];by_cases e:k=17
  ·rw[zl e,srt_iff];obtain⟨hnd,kE⟩:=v4 e;have hl2:keys.length=(ZK l).length:=by rw[yW,qb];exact kE
   refine⟨?_,λx hx=>?_⟩
   ·rw[List.pairwise_map];exact ZB _ (by rw[dZ hl2];exact hnd)
   exact zb38
  rw[ze e,srt_iff,v3 e,yW];refine⟨List.Pairwise.nil,λx hx=>?_⟩;obtain⟨y,hy,rfl⟩:=qh.1 hx;exact hk y hy
theorem LN:∀(m:Nat) (t:Tr) (b:Nat),t.size≤m→Y9 b t→wL t→zP t=t:=by
 intro m
 induction m with
 | zero=>intro t b h;have:=t.size_pos;omega
 | succ m ih=>
  intro t b h hv hs;have hn:=hv;obtain⟨k,n,u,s,keys,l⟩:=t;obtain⟨_,_,v3,v4,_⟩:=J9 hn;simp only[Tr.size] at h;rw[srt_iff] at hs;have qG:=valL_iff.1 hv.2.2.2
  have hk:ZK l=l:=by
   rw[yW];have:∀x∈l,zP x=x:=λx hx=>ih x (b+1) zp7 (qG x hx) (hs.2 x hx);rw[List.map_congr_left this,List.map_id']
  simp only[zP];rw[hk];by_cases e:k=17
  ·rw[zl e];obtain⟨hnd,kE⟩:=v4 e
   have he:vW (keys.zip l)=keys.zip l:=by
    refine YH _ _ (qT _) (ZB _ (by rw[dZ kE];exact hnd)) ?_;have:((keys.zip l).map Prod.fst).Pairwise λx y=>ltS x y=true:=by rw[dZ kE];exact hs.1
    rwa [List.pairwise_map] at this
   rw[he,dZ kE,DL kE]
  rw[ze e]
theorem LO (l:List ByteArray) (h:(l.all λs=>decide (s.size≤9223372036854775807))=true):∀s∈l,kI s.size:=by
 intro s hs;simpa [kI] using qu.1 h s hs
end Go.Proofs.YtdjoffgkndncfaaGreat
