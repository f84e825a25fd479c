/-
  Texts of the proof.
-/
import Derived.Test.YtdjoffgkndncfaaGreatEOrderPAE
import Derived.Outline
import Derived.Laws.IdiomStrings
import Derived.Laws.Closers25b
set_option linter.unusedVariables false
set_option linter.unusedSimpArgs false
namespace Go.Proofs.YtdjoffgkndncfaaGreat
open Go Go.ChangeShapes Go.WideShapes Go.ChangeAt Go.RowKit Go.Joins
theorem jAU {w:World} {v:Value} {x:List UInt8} (h:BytesAt w v x):(convert 28 9 v).run Tryz.prog w=.ok (.string ⟨x.toArray⟩) w:=by
 obtain⟨a,c,rfl,hc,hnil,hcell⟩:=h
 cases a with
 | none=>
  have h0:=hnil rfl
  subst h0
  have:x=[]:=List.length_eq_zero_iff.1 (by omega)
  subst this
  exact run_convert_bytes_nil w 28 5 Tryz.underlying28 Tryz.underlying5 0 0 9 Tryz.underlying9
 | some ad=>
  refine run_convert_bytes_back w 28 9 5 ad c x Tryz.underlying28 Tryz.underlying5 Tryz.underlying9 fun j hj=>?_
  obtain⟨b,off,e,hcc⟩:=hcell j x[j] (List.getElem?_eq_getElem hj)
  cases e
  have:(⟨b,off,none⟩:Addr).add j=⟨b,off+j,none⟩:=by
   unfold Addr.add
   split
   ·rename_i h;subst h;rfl
   ·rfl
  rw[this];exact hcc
theorem jFm {w:World} (v u:Value) (x y:List UInt8) (hv:BytesAt w v x) (hu:BytesAt w u y) :
 Calls Tryz.prog 17 #[v,u] w fun r w'=>r=.returned (.bool (decide (x=y)))∧w'=w:=by
 have h1:=jAU hv
 have h2:=jAU hu
 obtain⟨a,c,rfl,hc,hnil,_⟩:=hv
 obtain⟨a2,c2,rfl,hc2,hnil2,_⟩:=hu
 clear hc hc2 hnil hnil2
 go_enter Tryz.func17,Tryz.ntmps17
 go_wp2
 go_ret
 refine⟨jd ?_,rfl⟩
 show (_ == _)=_
 rw[Bool.eq_iff_iff]
 simp
theorem jJ6 (i n:Int) (h:0 < n):(i.tmod n < 0→i.tmod n+n=i % n)∧(¬i.tmod n < 0→i.tmod n=i % n)∧-n < i.tmod n∧i.tmod n < n:=by
 have h1:=Int.emod_nonneg i (show n≠0 by omega)
 have h2:=Int.emod_lt_of_pos i h
 rw[Int.tmod_eq_emod]
 by_cases hc:0≤i∨n ∣ i
 ·rw[if_pos hc]
  refine⟨fun h=>?_,fun _=>?_,?_,?_⟩<;>simp only[Int.ofNat_zero,Int.sub_zero] at *<;>omega
 ·rw[if_neg hc]
  have h3:(n.natAbs:Int)=n:=by omega
  have h4:i % n≠0:=fun h=>hc (.inr (Int.dvd_of_emod_eq_zero h))
  rw[h3]
  refine⟨fun h=>?_,fun _=>?_,?_,?_⟩<;>omega
theorem bring_any (i n:Int) (w:World) (hn:0 < n) (hn2:n≤1048577):Calls Tryz.prog 16 #[.int .i64 i,.int .i64 n] w fun r w'=>r=.returned (.int .i64 (i % n))∧w'=w:=by
 obtain⟨b1,b2,b3,b4⟩:=jJ6 i n hn
 have B1:=zh b1
 have B2:=zh b2
 clear b1 b2
 go_enter Tryz.func16,Tryz.ntmps16
 go_wp2
 ·go_ret
  refine⟨jBp ?_,rfl⟩
  exact B1.out (by assumption)
 ·go_ret
  exact⟨jBp (B2.out (by assumption)),rfl⟩
def jBB (most:Int):Int:=min (max most 0) 1048576
theorem new_any (most:Int) (w:World):Calls Tryz.prog 70 #[.int .i64 most] w fun r w'=>r=.returned (jE w.heap.size)∧BufAt w.heap.size w' w.heap.size none [] (jBB most) 0∧Grew w w'∧w.heap.size < w'.heap.size:=by
 have H:Hid (∀m:Int,m=jBB most→BufAt w.heap.size (w.alloc (.cells #[.bool true,.slice none 0 0,.int .i64 m,.int .i64 0] 163)) w.heap.size none [] (jBB most) 0∧Grew w (w.alloc (.cells #[.bool true,.slice none 0 0,.int .i64 m,.int .i64 0] 163))∧w.heap.size < (w.alloc (.cells #[.bool true,.slice none 0 0,.int .i64 m,.int .i64 0] 163)).heap.size):=by
  rintro m rfl
  exact⟨⟨Nat.le_refl _,_,heap_alloc_new _ _,World.ownsRow_nil _ _ _ _,rfl,by simp⟩,(Grew.refl w).alloc _,by simp⟩
 have HR:Hid ((most < 0→0=jBB most)∧(0≤most→most≤1048576→most=jBB most)∧(1048576≤most→1048576=jBB most)):=by
  unfold jBB;exact⟨by omega,by omega,by omega⟩
 generalize jBB most=rm at *
 go_enter Tryz.func70,Tryz.ntmps70
 go_wp2
 all_goals
  go_ret
  refine⟨rfl,H.out _ ?_⟩
  first | exact HR.out.1 (by omega) | exact HR.out.2.1 (by omega) (by omega) | exact HR.out.2.2 (by omega)
theorem jEv (w:World) (z:Int) (b:UInt8) (h:z=b.toNat):BytesAt (w.alloc (.cells #[.int .u8 z] 5)) (.slice (some ⟨w.heap.size,0,none⟩) 1 1) [b]:=by
 subst h
 refine⟨_,1,rfl,Nat.le_refl _,(fun h=>by cases h),fun i c hc=>⟨_,_,rfl,?_⟩⟩
 cases i with
 | zero=>
  simp at hc;subst hc
  rw[cell_of_row _ _ _ _ _ _ (heap_alloc_new _ _)];rfl
 | succ i=>simp at hc
def StrsAt (w:World) (v:Value) (ss:List ByteArray):Prop:=
 ∃a c,v=.slice a ss.length c∧∀(i:Nat) (s:ByteArray),ss[i]? = some s→∃bl off,a=some ⟨bl,off,none⟩∧w.cell? ⟨bl,off+i,none⟩=some (.string s)
theorem StrsAt.grew {w w':World} {v:Value} {x:List ByteArray} (h:StrsAt w v x) (hg:Grew w w'):StrsAt w' v x:=by
 obtain⟨a,c,h1,h4⟩:=h
 refine⟨a,c,h1,fun i b hb=>?_⟩
 obtain⟨bl,off,e,hc⟩:=h4 i b hb
 exact⟨bl,off,e,hg.cell hc⟩
theorem StrsAt.form {w:World} {v:Value} {x:List ByteArray} (h:StrsAt w v x):∃a c,v=.slice a x.length c∧(∀(i:Nat) (s:ByteArray),x[i]? = some s→∃bl off,a=some ⟨bl,off,none⟩∧w.cell? ⟨bl,off+i,none⟩=some (.string s)):=h
def jL (ss:List ByteArray):List UInt8:=ss.flatMap (·.data.toList)
def jAJ (ss:List ByteArray):Nat:=(ss.map (·.size)).sum
theorem jCu (ss:List ByteArray):(jL ss).length=jAJ ss:=by
 induction ss with
 | nil=>rfl
 | cons s r ih=>
  have e1:jL (s::r)=s.data.toList++jL r:=by simp[jL]
  have e2:jAJ (s::r)=s.size+jAJ r:=by simp[jAJ]
  rw[e1,e2,List.length_append,ih];rfl
theorem jGr (ss:List ByteArray) (k:Nat) (h:k < ss.length):ss.take (k+1)=ss.take k++[ss[k]]:=by
 rw[List.take_succ_eq_append_getElem h]
theorem jJ7 (ss:List ByteArray) (k:Nat) (h:k < ss.length):jL (ss.take (k+1))=jL (ss.take k)++ss[k].data.toList:=by
 rw[jGr ss k h,jL,List.flatMap_append];simp[jL]
theorem jDI (ss:List ByteArray) (k:Nat) (h:k < ss.length):jAJ (ss.take (k+1))=jAJ (ss.take k)+ss[k].size:=by
 rw[jGr ss k h,jAJ,List.map_append,List.sum_append];simp[jAJ]
theorem jDJ (ss:List ByteArray) (k:Nat):jAJ (ss.take k)≤jAJ ss:=by
 have:jAJ ss=jAJ (ss.take k)+jAJ (ss.drop k):=by
  conv=>lhs;rw[← List.take_append_drop k ss]
  simp only[jAJ,List.map_append,List.sum_append]
 omega
theorem jI3 (w:World) (s:ByteArray) (hs:s.size≤1099511627776) :
 ∃v w',(convert 9 28 (.string s)).run Tryz.prog w=.ok v w'∧BytesAt w' v s.data.toList∧Grew w w':=by
 have hr:=run_bytes_of_string (P:=Tryz.prog) w 9 28 5 s Tryz.underlying9 Tryz.underlying28 Tryz.underlying5
 refine⟨_,_,hr,?_,((Grew.refl w).drew).alloc _⟩
 have hge:=grownCap_ge w s.size 0 5
 have hsz:s.size=s.data.toList.length:=rfl
 refine⟨_,_,by rw[hsz],by rw[← hsz];exact hge,(fun h=>by cases h),fun i b hb=>⟨_,_,rfl,?_⟩⟩
 obtain⟨hi,he⟩:=List.getElem?_eq_some_iff.1 hb
 have hh:(w.drew.alloc (.cells (bytesRow s (grownCap w s.size 0 5)) 5 ((bytesRow s (grownCap w s.size 0 5)).size,(bytesRow s (grownCap w s.size 0 5)).size+1))).heap[w.heap.size]? = some _:=heap_alloc_new w.drew _
 rw[cell_of_row _ w.heap.size _ _ _ _ hh,Nat.zero_add,bytesRow_at s _ i (by simpa using hi)]
 rw[← he];rfl
end Go.Proofs.YtdjoffgkndncfaaGreat
