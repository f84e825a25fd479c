/-
  Texts of the proof.
-/
import Derived.Test.YtjnpcddbgfmpcaaGreatBTextsPAL
import Derived.Outline
import Derived.Laws.IdiomStrings
import Derived.Laws.Closers25b
set_option linter.unusedVariables false
set_option linter.unusedSimpArgs false
namespace Go.Proofs.YtjnpcddbgfmpcaaGreat
open Go.Proofs.Tryz
open Go Go.ChangeShapes Go.WideShapes Go.ChangeAt Go.RowKit Go.Joins
theorem zK {w:World} {v:Value} {x:List UInt8} (h:jX w v x):(convert 29 9 v).run prog w=.ok (.string ⟨x.toArray⟩) w:=by
 obtain⟨a,c,rfl,hc,kG,j4⟩:=h
 cases a with
 | none=>
  have h0:=kG rfl
  subst h0
  have:x=[]:=List.length_eq_zero_iff.1 (by omega)
  subst this
  exact run_convert_bytes_nil w 29 5 underlying29 underlying5 0 0 9 underlying9
 | some ad=>
  refine run_convert_bytes_back w 29 9 5 ad c x underlying29 underlying5 underlying9 fun j hj=>?_
  obtain⟨b,off,e,hcc⟩:=j4 j x[j] (List.getElem?_eq_getElem hj)
  cases e
  have:(⟨b,off,none⟩:Addr).add j=⟨b,off+j,none⟩:=by
   unfold Addr.add
   split
   ·rename_i h;subst h;rfl
   ·rfl
  rw[this];exact hcc
theorem Y0 {w:World} (v u:Value) (x y:List UInt8) (hv:jX w v x) (hu:jX w u y) :
 Calls prog 27 #[v,u] w fun r w'=>r=.returned (.bool (decide (x=y)))∧w'=w:=by
 have h1:=zK hv
 have h2:=zK hu
 obtain⟨a,c,rfl,hc,kG,_⟩:=hv
 obtain⟨a2,c2,rfl,hc2,hnil2,_⟩:=hu
 clear hc hc2 kG hnil2
 go_enter func27,ntmps27
 go_wp2
 go_ret
 refine⟨JF ?_,rfl⟩
 show (_ == _)=_
 rw[Bool.eq_iff_iff]
 simp
theorem dD (i n:Int) (h:0 < n):(i.tmod n < 0→i.tmod n+n=i % n)∧(¬i.tmod n < 0→i.tmod n=i % n)∧-n < i.tmod n∧i.tmod n < n:=by
 have h1:=Int.emod_nonneg i (show n≠0 by omega)
 have h2:=Int.emod_lt_of_pos i h
 rw[Int.tmod_eq_emod]
 by_cases hc:0≤i∨n ∣ i
 ·rw[if_pos hc]
  refine⟨fun h=>?_,fun _=>?_,?_,?_⟩<;>simp only[Int.ofNat_zero,Int.sub_zero] at *<;>omega
 ·rw[if_neg hc]
  have h3:(n.natAbs:Int)=n:=by omega
  have h4:i % n≠0:=fun h=>hc (.inr (Int.dvd_of_emod_eq_zero h))
  rw[h3]
  refine⟨fun h=>?_,fun _=>?_,?_,?_⟩<;>omega
theorem bring_any (i n:Int) (w:World) (hn:0 < n) (hn2:n≤1048577):Calls prog 9 #[.int .i64 i,.int .i64 n] w fun r w'=>r=.returned (.int .i64 (i % n))∧w'=w:=by
 obtain⟨b1,b2,b3,b4⟩:=dD i n hn
 have B1:=zh b1
 have B2:=zh b2
 clear b1 b2
 go_enter func9,ntmps9
 go_wp2
 ·go_ret
  refine⟨yW ?_,rfl⟩
  exact B1.out (by assumption)
 ·go_ret
  exact⟨yW (B2.out (by assumption)),rfl⟩
theorem iV (s:ByteArray) (n:Int) (w:World) (hn:0≤n) (hs:s.size≤9223372036854775807):Calls prog 14 #[.string s,.int .i64 n] w fun r w'=>r=.returned (.string (s.extract 0 (min s.size n.toNat)))∧w'=w:=by
 have H:Hid ((n≤s.size→s.extract 0 (min s.size n.toNat)=s.extract 0 n.toNat)∧(s.size≤n→s.extract 0 (min s.size n.toNat)=s)):=by
  refine⟨fun h=>by rw[show min s.size n.toNat=n.toNat by omega],fun h=>?_⟩
  rw[show min s.size n.toNat=s.size by omega]
  exact ByteArray.extract_zero_size
 generalize s.extract 0 (min s.size n.toNat)=z at *
 go_enter func14,ntmps14
 go_wp2
 ·go_ret
  exact⟨by rw[H.out.1 (by omega)];rfl,rfl⟩
 ·go_ret
  exact⟨by rw[H.out.2 (by omega)];rfl,rfl⟩
def yL (most:Int):Int:=min (max most 0) 1048576
theorem new_any (most:Int) (w:World):Calls prog 31 #[.int .i64 most] w fun r w'=>r=.returned (jF w.heap.size)∧kL w.heap.size w' w.heap.size none [] (yL most) 0∧jB w w'∧w.heap.size < w'.heap.size:=by
 have H:Hid (∀m:Int,m=yL most→kL w.heap.size (w.alloc (.cells #[.bool true,.slice none 0 0,.int .i64 m,.int .i64 0] 135)) w.heap.size none [] (yL most) 0∧jB w (w.alloc (.cells #[.bool true,.slice none 0 0,.int .i64 m,.int .i64 0] 135))∧w.heap.size < (w.alloc (.cells #[.bool true,.slice none 0 0,.int .i64 m,.int .i64 0] 135)).heap.size):=by
  rintro m rfl
  exact⟨⟨Nat.le_refl _,_,heap_alloc_new _ _,World.ownsRow_nil _ _ _ _,rfl,by simp⟩,(jB.refl w).alloc _,by simp⟩
 have HR:Hid ((most < 0→0=yL most)∧(0≤most→most≤1048576→most=yL most)∧(1048576≤most→1048576=yL most)):=by
  unfold yL;exact⟨by omega,by omega,by omega⟩
 generalize yL most=rm at *
 go_enter func31,ntmps31
 go_wp2
 all_goals
  go_ret
  refine⟨rfl,H.out _ ?_⟩
  first | exact HR.out.1 (by omega) | exact HR.out.2.1 (by omega) (by omega) | exact HR.out.2.2 (by omega)
theorem ZX (w:World) (z:Int) (b:UInt8) (h:z=b.toNat):jX (w.alloc (.cells #[.int .u8 z] 5)) (.slice (some ⟨w.heap.size,0,none⟩) 1 1) [b]:=by
 subst h
 refine⟨_,1,rfl,Nat.le_refl _,(fun h=>by cases h),fun i c hc=>⟨_,_,rfl,?_⟩⟩
 cases i with
 | zero=>
  simp at hc;subst hc
  rw[cell_of_row _ _ _ _ _ _ (heap_alloc_new _ _)];rfl
 | succ i=>simp at hc
def KJ (w:World) (v:Value) (ss:List ByteArray):Prop:=
 ∃a c,v=.slice a ss.length c∧∀(i:Nat) (s:ByteArray),ss[i]? = some s→∃bl off,a=some ⟨bl,off,none⟩∧w.cell? ⟨bl,off+i,none⟩=some (.string s)
theorem KJ.grew {w w':World} {v:Value} {x:List ByteArray} (h:KJ w v x) (hg:jB w w'):KJ w' v x:=by
 obtain⟨a,c,h1,h4⟩:=h
 refine⟨a,c,h1,fun i b hb=>?_⟩
 obtain⟨bl,off,e,hc⟩:=h4 i b hb
 exact⟨bl,off,e,hg.cell hc⟩
theorem KJ.form {w:World} {v:Value} {x:List ByteArray} (h:KJ w v x):∃a c,v=.slice a x.length c∧(∀(i:Nat) (s:ByteArray),x[i]? = some s→∃bl off,a=some ⟨bl,off,none⟩∧w.cell? ⟨bl,off+i,none⟩=some (.string s)):=h
def jS (ss:List ByteArray):List UInt8:=ss.flatMap (·.data.toList)
def zB (ss:List ByteArray):Nat:=(ss.map (·.size)).sum
theorem JA (ss:List ByteArray):(jS ss).length=zB ss:=by
 induction ss with
 | nil=>rfl
 | cons s r ih=>
  have e1:jS (s::r)=s.data.toList++jS r:=by simp[jS]
  have e2:zB (s::r)=s.size+zB r:=by simp[zB]
  rw[e1,e2,List.length_append,ih];rfl
theorem Q1 (ss:List ByteArray) (k:Nat) (h:k < ss.length):ss.take (k+1)=ss.take k++[ss[k]]:=by
 rw[List.take_succ_eq_append_getElem h]
theorem dE (ss:List ByteArray) (k:Nat) (h:k < ss.length):jS (ss.take (k+1))=jS (ss.take k)++ss[k].data.toList:=by
 rw[Q1 ss k h,jS,List.flatMap_append];simp[jS]
theorem JR (ss:List ByteArray) (k:Nat) (h:k < ss.length):zB (ss.take (k+1))=zB (ss.take k)+ss[k].size:=by
 rw[Q1 ss k h,zB,List.map_append,List.sum_append];simp[zB]
theorem JS (ss:List ByteArray) (k:Nat):zB (ss.take k)≤zB ss:=by
 have:zB ss=zB (ss.take k)+zB (ss.drop k):=by
  conv=>lhs;rw[← List.take_append_drop k ss]
  simp only[zB,List.map_append,List.sum_append]
 omega
theorem bX (w:World) (s:ByteArray) (hs:s.size≤1099511627776) :
 ∃v w',(convert 9 29 (.string s)).run prog w=.ok v w'∧jX w' v s.data.toList∧jB w w':=by
 have hr:=run_bytes_of_string (P:=prog) w 9 29 5 s underlying9 underlying29 underlying5
 refine⟨_,_,hr,?_,((jB.refl w).drew).alloc _⟩
 have hge:=grownCap_ge w s.size 0 5
 have hsz:s.size=s.data.toList.length:=rfl
 refine⟨_,_,by rw[hsz],by rw[← hsz];exact hge,(fun h=>by cases h),fun i b hb=>⟨_,_,rfl,?_⟩⟩
 obtain⟨hi,he⟩:=List.getElem?_eq_some_iff.1 hb
 have hh:(w.drew.alloc (.cells (bytesRow s (grownCap w s.size 0 5)) 5 ((bytesRow s (grownCap w s.size 0 5)).size,(bytesRow s (grownCap w s.size 0 5)).size+1))).heap[w.heap.size]? = some _:=heap_alloc_new w.drew _
 rw[cell_of_row _ w.heap.size _ _ _ _ hh,Nat.zero_add,bytesRow_at s _ i (by simpa using hi)]
 rw[← he];rfl
end Go.Proofs.YtjnpcddbgfmpcaaGreat
