/-
  Texts of the proof.
-/
import Derived.Test.YtjnpcddbgfmpcaaGreatDoorBMapsPAF
import Derived.Outline
import Derived.Laws.IdiomStrings
import Derived.Laws.Closers25b
set_option linter.unusedVariables false
set_option linter.unusedSimpArgs false
namespace Go.Proofs.YtjnpcddbgfmpcaaGreatDoor
open Go.Proofs.Tryz
open Go Go.ChangeShapes Go.WideShapes Go.ChangeAt Go.RowKit Go.Joins
theorem yK {w:World} {v:Value} {x:List UInt8} (h:kB w v x):(convert 31 9 v).run prog w=.ok (.string ⟨x.toArray⟩) w:=by
 obtain⟨a,c,rfl,hc,kQ,j2⟩:=h
 cases a with
 | none=>
  have h0:=kQ rfl
  subst h0
  have:x=[]:=List.length_eq_zero_iff.1 (by omega)
  subst this
  exact run_convert_bytes_nil w 31 5 underlying31 underlying5 0 0 9 underlying9
 | some ad=>
  refine run_convert_bytes_back w 31 9 5 ad c x underlying31 underlying5 underlying9 fun j hj=>?_
  obtain⟨b,off,e,hcc⟩:=j2 j x[j] (List.getElem?_eq_getElem hj)
  cases e
  have:(⟨b,off,none⟩:Addr).add j=⟨b,off+j,none⟩:=by
   unfold Addr.add
   split
   ·rename_i h;subst h;rfl
   ·rfl
  rw[this];exact hcc
theorem hZ (i n:Int) (h:0 < n):(i.tmod n < 0→i.tmod n+n=i % n)∧(¬i.tmod n < 0→i.tmod n=i % n)∧-n < i.tmod n∧i.tmod n < n:=by
 have h1:=Int.emod_nonneg i (show n≠0 by omega)
 have h2:=Int.emod_lt_of_pos i h
 rw[Int.tmod_eq_emod]
 by_cases hc:0≤i∨n ∣ i
 ·rw[if_pos hc]
  refine⟨fun h=>?_,fun _=>?_,?_,?_⟩<;>simp only[Int.ofNat_zero,Int.sub_zero] at *<;>omega
 ·rw[if_neg hc]
  have h3:(n.natAbs:Int)=n:=by omega
  have h4:i % n≠0:=fun h=>hc (.inr (Int.dvd_of_emod_eq_zero h))
  rw[h3]
  refine⟨fun h=>?_,fun _=>?_,?_,?_⟩<;>omega
theorem bring_any (i n:Int) (w:World) (hn:0 < n) (hn2:n≤1048577):Calls prog 8 #[.int .i64 i,.int .i64 n] w fun r w'=>r=.returned (.int .i64 (i % n))∧w'=w:=by
 obtain⟨b1,b2,b3,b4⟩:=hZ i n hn
 have B1:=zh b1
 have B2:=zh b2
 clear b1 b2
 go_enter func8,ntmps8
 go_wp2
 ·go_ret
  refine⟨qA ?_,rfl⟩
  exact B1.out (by assumption)
 ·go_ret
  exact⟨qA (B2.out (by assumption)),rfl⟩
def y8 (most:Int):Int:=min (max most 0) 1048576
theorem new_any (most:Int) (w:World):Calls prog 23 #[.int .i64 most] w fun r w'=>r=.returned (jF w.heap.size)∧kU w.heap.size w' w.heap.size none [] (y8 most) 0∧jA w w'∧w.heap.size < w'.heap.size:=by
 have H:Hid (∀m:Int,m=y8 most→kU w.heap.size (w.alloc (.cells #[.bool true,.slice none 0 0,.int .i64 m,.int .i64 0] 107)) w.heap.size none [] (y8 most) 0∧jA w (w.alloc (.cells #[.bool true,.slice none 0 0,.int .i64 m,.int .i64 0] 107))∧w.heap.size < (w.alloc (.cells #[.bool true,.slice none 0 0,.int .i64 m,.int .i64 0] 107)).heap.size):=by
  rintro m rfl
  exact⟨⟨Nat.le_refl _,_,heap_alloc_new _ _,World.ownsRow_nil _ _ _ _,rfl,by simp⟩,(jA.refl w).alloc _,by simp⟩
 have HR:Hid ((most < 0→0=y8 most)∧(0≤most→most≤1048576→most=y8 most)∧(1048576≤most→1048576=y8 most)):=by
  unfold y8;exact⟨by omega,by omega,by omega⟩
 generalize y8 most=rm at *
 go_enter func23,ntmps23
 go_wp2
 all_goals
  go_ret
  refine⟨rfl,H.out _ ?_⟩
  first | exact HR.out.1 (by omega) | exact HR.out.2.1 (by omega) (by omega) | exact HR.out.2.2 (by omega)
theorem QO (w:World) (z:Int) (b:UInt8) (h:z=b.toNat):kB (w.alloc (.cells #[.int .u8 z] 5)) (.slice (some ⟨w.heap.size,0,none⟩) 1 1) [b]:=by
 subst h
 refine⟨_,1,rfl,Nat.le_refl _,(fun h=>by cases h),fun i c hc=>⟨_,_,rfl,?_⟩⟩
 cases i with
 | zero=>
  simp at hc;subst hc
  rw[cell_of_row _ _ _ _ _ _ (heap_alloc_new _ _)];rfl
 | succ i=>simp at hc
def ZR (w:World) (v:Value) (ss:List ByteArray):Prop:=
 ∃a c,v=.slice a ss.length c∧∀(i:Nat) (s:ByteArray),ss[i]? = some s→∃bl off,a=some ⟨bl,off,none⟩∧w.cell? ⟨bl,off+i,none⟩=some (.string s)
theorem ZR.grew {w w':World} {v:Value} {x:List ByteArray} (h:ZR w v x) (hg:jA w w'):ZR w' v x:=by
 obtain⟨a,c,h1,h4⟩:=h
 refine⟨a,c,h1,fun i b hb=>?_⟩
 obtain⟨bl,off,e,hc⟩:=h4 i b hb
 exact⟨bl,off,e,hg.cell hc⟩
theorem ZR.form {w:World} {v:Value} {x:List ByteArray} (h:ZR w v x):∃a c,v=.slice a x.length c∧(∀(i:Nat) (s:ByteArray),x[i]? = some s→∃bl off,a=some ⟨bl,off,none⟩∧w.cell? ⟨bl,off+i,none⟩=some (.string s)):=h
def jP (ss:List ByteArray):List UInt8:=ss.flatMap (·.data.toList)
def zH (ss:List ByteArray):Nat:=(ss.map (·.size)).sum
theorem J6 (ss:List ByteArray):(jP ss).length=zH ss:=by
 induction ss with
 | nil=>rfl
 | cons s r ih=>
  have e1:jP (s::r)=s.data.toList++jP r:=by simp[jP]
  have e2:zH (s::r)=s.size+zH r:=by simp[zH]
  rw[e1,e2,List.length_append,ih];rfl
theorem bH (ss:List ByteArray) (k:Nat) (h:k < ss.length):ss.take (k+1)=ss.take k++[ss[k]]:=by
 rw[List.take_succ_eq_append_getElem h]
theorem iA (ss:List ByteArray) (k:Nat) (h:k < ss.length):jP (ss.take (k+1))=jP (ss.take k)++ss[k].data.toList:=by
 rw[bH ss k h,jP,List.flatMap_append];simp[jP]
theorem KU (ss:List ByteArray) (k:Nat) (h:k < ss.length):zH (ss.take (k+1))=zH (ss.take k)+ss[k].size:=by
 rw[bH ss k h,zH,List.map_append,List.sum_append];simp[zH]
theorem KV (ss:List ByteArray) (k:Nat):zH (ss.take k)≤zH ss:=by
 have:zH ss=zH (ss.take k)+zH (ss.drop k):=by
  conv=>lhs;rw[← List.take_append_drop k ss]
  simp only[zH,List.map_append,List.sum_append]
 omega
theorem fL (w:World) (s:ByteArray) (hs:s.size≤1099511627776) :
 ∃v w',(convert 9 31 (.string s)).run prog w=.ok v w'∧kB w' v s.data.toList∧jA w w':=by
 have hr:=run_bytes_of_string (P:=prog) w 9 31 5 s underlying9 underlying31 underlying5
 refine⟨_,_,hr,?_,((jA.refl w).drew).alloc _⟩
 have hge:=grownCap_ge w s.size 0 5
 have hsz:s.size=s.data.toList.length:=rfl
 refine⟨_,_,by rw[hsz],by rw[← hsz];exact hge,(fun h=>by cases h),fun i b hb=>⟨_,_,rfl,?_⟩⟩
 obtain⟨hi,he⟩:=List.getElem?_eq_some_iff.1 hb
 have hh:(w.drew.alloc (.cells (bytesRow s (grownCap w s.size 0 5)) 5 ((bytesRow s (grownCap w s.size 0 5)).size,(bytesRow s (grownCap w s.size 0 5)).size+1))).heap[w.heap.size]? = some _:=heap_alloc_new w.drew _
 rw[cell_of_row _ w.heap.size _ _ _ _ hh,Nat.zero_add,bytesRow_at s _ i (by simpa using hi)]
 rw[← he];rfl
end Go.Proofs.YtjnpcddbgfmpcaaGreatDoor
