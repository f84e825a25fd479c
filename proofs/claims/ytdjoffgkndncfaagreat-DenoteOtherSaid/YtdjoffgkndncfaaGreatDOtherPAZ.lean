/-Texts-/
import Derived.Test.YtdjoffgkndncfaaGreatDOtherPAE
import Derived.Outline
import Derived.Laws.IdiomStrings
import Derived.Laws.Closers25b
set_option linter.unusedVariables false
set_option linter.unusedSimpArgs false
namespace Go.Proofs.YtdjoffgkndncfaaGreat
open Go.Proofs.Tryz
open Go Go.ChangeShapes Go.WideShapes Go.ChangeAt Go.RowKit Go.Joins
variable {w:World} {v:Value} {x:List ByteArray}
theorem ZD {x:List UInt8} (h:zK w v x):(convert 28 9 v).run prog w=.ok (.string ⟨x.toArray⟩) w:=by
 obtain⟨a,c,rfl,hc,zX,kM⟩:=h
 cases a with
 | none=>
  have h0:=zX rfl;subst h0;have:x=[]:=List.length_eq_zero_iff.1 zo;subst this;exact run_convert_bytes_nil w 28 5 underlying28 underlying5 0 0 9 underlying9
 | some ad=>
  refine run_convert_bytes_back w 28 9 5 ad c x underlying28 underlying5 underlying9 λj hj=>?_;obtain⟨b,off,e,hcc⟩:=kM j x[j] (za hj);cases e
  have:(⟨b,off,none⟩:Addr).add j=⟨b,off+j,none⟩:=by
   unfold Addr.add;split
   ·rename_i h;subst h;rfl
   rfl
  rw[this];exact hcc
theorem wQ (i n:Int) (h:0 < n):(i.tmod n < 0→i.tmod n+n=i % n)∧(¬i.tmod n < 0→i.tmod n=i % n)∧-n < i.tmod n∧i.tmod n < n:=by
 have h1:=xg i (show n≠0 by omega);have h2:=xd i h;rw[Int.tmod_eq_emod];by_cases hc:0≤i∨n ∣ i
 ·rw[zl hc];refine⟨λh=>?_,λ_=>?_,?_,?_⟩<;>simp only[Int.ofNat_zero,Int.sub_zero] at *<;>omega
 rw[ze hc];have h3:(n.natAbs:Int)=n:=by omega
 have h4:i % n≠0:=λh=>hc (.inr (Int.dvd_of_emod_eq_zero h));rw[h3];refine⟨λh=>?_,λ_=>?_,?_,?_⟩<;>omega
theorem bring_any (i n:Int) (w:World) (hn:0 < n) (hn2:n≤1048577):Calls prog 16 #[.int .i64 i,.int .i64 n] w λr w'=>r=.returned (.int .i64 (i % n))∧w'=w:=by
 obtain⟨b1,b2,b3,b4⟩:=wQ i n hn;have B1:=zh b1;have B2:=zh b2;clear b1 b2;go_enter func16,ntmps16;go_wp2
 ·go_ret;refine⟨K5 ?_,rfl⟩;exact B1.out (by assumption)
 go_ret;exact⟨K5 (B2.out (by assumption)),rfl⟩
def JV (jB:Int):Int:=min (max jB 0) 1048576
theorem new_any (jB:Int) (w:World):Calls prog 70 #[.int .i64 jB] w λr w'=>r=.returned (jI w.heap.size)∧yA w.heap.size w' w.heap.size none [] (JV jB) 0∧jC w w'∧w.heap.size < w'.heap.size:=by
 have H:Hid (∀m:Int,m=JV jB→yA w.heap.size (w.alloc (.cells #[.bool true,.slice none 0 0,.int .i64 m,.int .i64 0] 163)) w.heap.size none [] (JV jB) 0∧jC w (w.alloc (.cells #[.bool true,.slice none 0 0,.int .i64 m,.int .i64 0] 163))∧w.heap.size < (w.alloc (.cells #[.bool true,.slice none 0 0,.int .i64 m,.int .i64 0] 163)).heap.size):=by
  rintro m rfl;exact⟨⟨zr _,_,qc _ _,World.ownsRow_nil _ _ _ _,rfl,by simp⟩,(jC.refl w).alloc _,by simp⟩
 have HR:Hid ((jB < 0→0=JV jB)∧(0≤jB→jB≤1048576→jB=JV jB)∧(1048576≤jB→1048576=JV jB)):=by
  unfold JV;exact⟨by omega,by omega,by omega⟩
 generalize JV jB=rm at *;go_enter func70,ntmps70;go_wp2
 all_goals
  go_ret;refine⟨rfl,H.out _ ?_⟩
  first | exact HR.1 zo | exact HR.2.1 zo zo | exact HR.2.2 zo
theorem eA (w:World) (z:Int) (b:UInt8) (h:z=b.toNat):zK (w.alloc (.cells #[.int .u8 z] 5)) (.slice (some ⟨w.heap.size,0,none⟩) 1 1) [b]:=by
 subst h;refine⟨_,1,rfl,zr _,(λh=>by cases h),λi c hc=>⟨_,_,rfl,?_⟩⟩
 cases i with
 | zero=>
  simp at hc;subst hc;rw[cell_of_row _ _ _ _ _ _ (qc _ _)];rfl
 | succ i=>simp at hc
def aI (w:World) (v:Value) (ss:List ByteArray):Prop:=
 ∃a c,v=.slice a ss.length c∧∀(i:Nat) (s:ByteArray),ss[i]? = some s→∃bl off,a=some ⟨bl,off,none⟩∧w.cell? ⟨bl,off+i,none⟩=some (.string s)
theorem aI.grew {w':World} (h:aI w v x) (hg:jC w w'):aI w' v x:=by
 obtain⟨a,c,h1,h4⟩:=h;refine⟨a,c,h1,λi b hb=>?_⟩;obtain⟨bl,off,e,hc⟩:=h4 i b hb;exact⟨bl,off,e,hg.cell hc⟩
theorem aI.form (h:aI w v x):∃a c,v=.slice a x.length c∧(∀(i:Nat) (s:ByteArray),x[i]? = some s→∃bl off,a=some ⟨bl,off,none⟩∧w.cell? ⟨bl,off+i,none⟩=some (.string s)):=h
def jS (ss:List ByteArray):List UInt8:=ss.flatMap (·.data.toList)
def yY (ss:List ByteArray):Nat:=(ss.map (·.size)).sum
theorem QM (ss:List ByteArray):(jS ss).length=yY ss:=by
 induction ss with
 | nil=>rfl
 | cons s r ih=>
  have e1:jS (s::r)=s.data.toList++jS r:=by simp[jS]
  have e2:yY (s::r)=s.size+yY r:=by simp[yY]
  rw[e1,e2,zb,ih];rfl
theorem mC (ss:List ByteArray) (k:Nat) (h:k < ss.length):ss.take (k+1)=ss.take k++[ss[k]]:=by
 rw[List.take_succ_eq_append_getElem h]
theorem wR (ss:List ByteArray) (k:Nat) (h:k < ss.length):jS (ss.take (k+1))=jS (ss.take k)++ss[k].data.toList:=by
 rw[mC ss k h,jS,yg];simp[jS]
theorem VH (ss:List ByteArray) (k:Nat) (h:k < ss.length):yY (ss.take (k+1))=yY (ss.take k)+ss[k].size:=by
 rw[mC ss k h,yY,xb,List.sum_append];simp[yY]
theorem VI (ss:List ByteArray) (k:Nat):yY (ss.take k)≤yY ss:=by
 have:yY ss=yY (ss.take k)+yY (ss.drop k):=by
  conv=>lhs;rw[← List.take_append_drop k ss]
  simp only[yY,xb,List.sum_append]
 omega
theorem sU (w:World) (s:ByteArray) (hs:s.size≤1099511627776) :
 ∃v w',(convert 9 28 (.string s)).run prog w=.ok v w'∧zK w' v s.data.toList∧jC w w':=by
 have hr:=run_bytes_of_string (P:=prog) w 9 28 5 s underlying9 underlying28 underlying5;refine⟨_,_,hr,?_,((jC.refl w).drew).alloc _⟩;have hge:=grownCap_ge w s.size 0 5;have hsz:s.size=s.data.toList.length:=rfl;refine⟨_,_,by rw[hsz],by rw[← hsz];exact hge,(λh=>by cases h),λi b hb=>⟨_,_,rfl,?_⟩⟩;obtain⟨hi,he⟩:=zi.1 hb;have hh:(w.drew.alloc (.cells (bytesRow s (grownCap w s.size 0 5)) 5 ((bytesRow s (grownCap w s.size 0 5)).size,(bytesRow s (grownCap w s.size 0 5)).size+1))).heap[w.heap.size]? = some _:=qc w.drew _;rw[cell_of_row _ w.heap.size _ _ _ _ hh,Nat.zero_add,bytesRow_at s _ i zp32];rw[← he];rfl
end Go.Proofs.YtdjoffgkndncfaaGreat
