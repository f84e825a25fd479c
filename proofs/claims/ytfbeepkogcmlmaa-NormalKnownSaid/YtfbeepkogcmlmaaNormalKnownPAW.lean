/-
  Texts of the proof.
-/
import Derived.Test.YtfbeepkogcmlmaaNormalKnownPAT
import Derived.Test.YtfbeepkogcmlmaaNormalKnownPAV
set_option linter.unusedVariables false
set_option linter.unusedSimpArgs false
set_option maxHeartbeats 32000000
set_option maxRecDepth 100000
namespace Go.Proofs.Ytfbeepkogcmlmaa
open Go Go.ChangeShapes Go.WideShapes Go.ChangeAt Go.RowKit Go.Joins Go.Deep
theorem VK (t:Tr) (hz:t.size≤4096) (v:Value) (w:World) (hn:jL w t v):Calls Try.prog 49 #[v] w fun r w'=>r=.returned (.int .i64 (z7 0 t))∧jC w w':=by
 have HC:=zh hn
 obtain⟨xk,xn,xu,xs_,xa4,xn4,xc4,xa5,xn5,xc5,rfl⟩:=hn.node6
 clear hn
 go_enter Try.func49,Try.ntmps49
 go_upto_region 1 with fail
 have hb1:=heap_alloc_new w (.cells #[.int .i64 xk,.int .i64 xn,.int .u64 xu,.string xs_,.slice xa4 xn4 xc4,.slice xa5 xn5 xc5] 26)
 have hg1:=(jC.refl w).alloc (.cells #[.int .i64 xk,.int .i64 xn,.int .u64 xu,.string xs_,.slice xa4 xn4 xc4,.slice xa5 xn5 xc5] 26)
 have hs1:(w.alloc (.cells #[.int .i64 xk,.int .i64 xn,.int .u64 xu,.string xs_,.slice xa4 xn4 xc4,.slice xa5 xn5 xc5] 26)).heap.size=w.heap.size+1:=World.size_alloc _ _
 generalize (w.alloc (.cells #[.int .i64 xk,.int .i64 xn,.int .u64 xu,.string xs_,.slice xa4 xn4 xc4,.slice xa5 xn5 xc5] 26))=w1 at *
 obtain⟨N,hN⟩:∃N,w.heap.size=N:=⟨_,rfl⟩
 rw[hN] at hb1 hs1⊢
 have d0:=jA hb1 0 _ rfl
 have d1:=jA hb1 1 _ rfl
 have d2:=jA hb1 2 _ rfl
 have d3:=jA hb1 3 _ rfl
 have d4:=jA hb1 4 _ rfl
 have d5:=jA hb1 5 _ rfl
 go_upto_region 2 with fail
 have hb2:=heap_alloc_new w1 (.cells #[.int .i64 0] 76)
 have hg2:=(jC.refl w1).alloc (.cells #[.int .i64 0] 76)
 have hs2:(w1.alloc (.cells #[.int .i64 0] 76)).heap.size=w1.heap.size+1:=World.size_alloc _ _
 generalize (w1.alloc (.cells #[.int .i64 0] 76))=w2 at *
 clear d0 d1 d2 d3 d4 d5
 have hb1':=hg2.heap hb1
 have d0:=jA hb1' 0 _ rfl
 have d1:=jA hb1' 1 _ rfl
 have d2:=jA hb1' 2 _ rfl
 have d3:=jA hb1' 3 _ rfl
 have d4:=jA hb1' 4 _ rfl
 have d5:=jA hb1' 5 _ rfl
 have HG:=zh (hg1.trans hg2)
 have hc:=bQ w1 w1.heap.size (Nat.le_refl _) t.size t (Nat.le_refl _) _ w2 0 0 (by omega) (by omega) (by omega) (HC.out.grew hg1) hg2 hb2
 rw[show ((0:Nat):Int)=0 from rfl] at hc
 have HCL:=zh hc
 have HS1:Hid (w.heap.size≤w1.heap.size):=hg1.size
 rw[hs1] at HCL HS1
 try rw[hs1]
 clear hc hb1 hb1' hb2 hg1 hg2 hs1 hs2 hN
 go_wp2_with fail
 refine HCL.out.mono ?_
 rintro r w3 ⟨rfl,hm,_⟩
 have HF:Hid (jC w w3):=Moved.fresh HG.out hm (fun g e=>by have:=HS1.out;omega)
 clear hm
 go_wp2_with fail
 go_ret
 exact⟨rfl,HF.out⟩
def KE (w:World) (t t':Tr) (r:Ending) (w':World):Prop:=
 jC w w'∧((z7 0 t≠0∧r=.returned (.tuple #[.agg #[.int .i64 0,.int .i64 0,.int .u64 0,.string ⟨#[]⟩,.slice none 0 0,.slice none 0 0],.int .i64 (z7 0 t)]))∨(z7 0 t=0∧∃v,r=.returned (.tuple #[v,.int .i64 0])∧jW w' w.heap.size t' v (jX w w')))
theorem QS {w x1 wr:World} {N:Nat} {t t':Tr} {v:Value} (hN:w.heap.size=N) (hx:N+2≤x1.heap.size) (h:jW wr x1.heap.size t' v (jX x1 wr)) (hg:jC w wr) (h0:z7 0 t=0) (a b c d e f:Value) :
 KE w t t' (.returned (.tuple #[v,.int .i64 0])) (jH wr (N+1) a b c d e f):=by
 obtain⟨v',e,h1,h2⟩:=k0 hN hx h hg a b c d e f
 cases e
 exact⟨h2,.inr ⟨h0,_,rfl,h1⟩⟩
theorem VW {w wr:World} {N:Nat} {t t':Tr} {e:Int} (hN:w.heap.size=N) (hg:jC w wr) (he:z7 0 t=e) (h0:e≠0) (a b c d f g:Value) :
 KE w t t' (.returned (.tuple #[.agg #[.int .i64 0,.int .i64 0,.int .u64 0,.string ⟨#[]⟩,.slice none 0 0,.slice none 0 0],.int .i64 e])) (jH wr (N+1) a b c d f g):=
 ⟨Moved.fresh hg (kC wr (N+1) a b c d f g) (fun g e=>by omega),.inl ⟨by rw[he];exact h0,by rw[he]⟩⟩
theorem QT (t:Tr) (hz:t.size≤4096) (v:Value) (w:World) (hn:jL w t v):Calls Try.prog 30 #[v] w fun r w'=>KE w t (kB t) r w':=by
 have HC:=zh hn
 obtain⟨xk,xn,xu,xs_,xa4,xn4,xc4,xa5,xn5,xc5,rfl⟩:=hn.node6
 clear hn
 obtain⟨N,hN⟩:∃N,w.heap.size=N:=⟨_,rfl⟩
 go_enter Try.func30,Try.ntmps30
 go_wp2_with fail
 have hb1:=heap_alloc_new w (.cells #[.int .i64 xk,.int .i64 xn,.int .u64 xu,.string xs_,.slice xa4 xn4 xc4,.slice xa5 xn5 xc5] 26)
 have hg1:=(jC.refl w).alloc (.cells #[.int .i64 xk,.int .i64 xn,.int .u64 xu,.string xs_,.slice xa4 xn4 xc4,.slice xa5 xn5 xc5] 26)
 have hs1:(w.alloc (.cells #[.int .i64 xk,.int .i64 xn,.int .u64 xu,.string xs_,.slice xa4 xn4 xc4,.slice xa5 xn5 xc5] 26)).heap.size=w.heap.size+1:=World.size_alloc _ _
 generalize (w.alloc (.cells #[.int .i64 xk,.int .i64 xn,.int .u64 xu,.string xs_,.slice xa4 xn4 xc4,.slice xa5 xn5 xc5] 26))=w1 at *
 have hb2:=heap_alloc_new w1 (.cells #[.int .i64 0,.int .i64 0,.int .u64 0,.string ⟨#[]⟩,.slice none 0 0,.slice none 0 0] 26)
 have hg2:=(jC.refl w1).alloc (.cells #[.int .i64 0,.int .i64 0,.int .u64 0,.string ⟨#[]⟩,.slice none 0 0,.slice none 0 0] 26)
 have hs2:(w1.alloc (.cells #[.int .i64 0,.int .i64 0,.int .u64 0,.string ⟨#[]⟩,.slice none 0 0,.slice none 0 0] 26)).heap.size=w1.heap.size+1:=World.size_alloc _ _
 generalize (w1.alloc (.cells #[.int .i64 0,.int .i64 0,.int .u64 0,.string ⟨#[]⟩,.slice none 0 0,.slice none 0 0] 26))=w2 at *
 rw[hs1,hN] at hb2 hs2
 rw[hN] at hb1
 replace hb1:=hg2.heap hb1
 have HG:=zh (hg1.trans hg2)
 have HB1:=zh hb1
 have HB2:=zh hb2
 have HN:=zh hN
 have H2:Hid (N+2≤w2.heap.size):=Nat.le_of_eq hs2.symm
 clear hb1 hb2 hg1 hg2 hs1 hs2 hN
 refine (VK t hz _ w2 (HC.out.grew HG.out)).mono ?_
 rintro r w3 ⟨rfl,hg3⟩
 have HG3:=zh hg3
 have HGE:=zh (HG.out.trans hg3)
 have HRB:=zh (hg3.heap HB2.out)
 have HB3:=zh (hg3.heap HB1.out)
 clear hg3
 obtain⟨e,he⟩:∃e,z7 0 t=e:=⟨_,rfl⟩
 rw[he]
 have HE:=zh he
 clear he
 by_cases h0:e=0
 rotate_left
 ·have hb:(e != 0)=true:=by simpa using h0
  have hb2:(e == 0)=false:=by simpa using h0
  have H0:=zh h0
  clear h0
  have HFN:=zh (VW (t':=kB t) HN.out HGE.out HE.out H0.out (.int .i64 0) (.int .i64 0) (.int .u64 0) (.string ⟨#[]⟩) (.slice none 0 0) (.slice none 0 0))
  have z0:=jA HRB.out 0 _ rfl
  have z1:=jA HRB.out 1 _ rfl
  have z2:=jA HRB.out 2 _ rfl
  have z3:=jA HRB.out 3 _ rfl
  have z4:=jA HRB.out 4 _ rfl
  have z5:=jA HRB.out 5 _ rfl
  have q0:=jB HRB.out 0
  have q1:=jB HRB.out 1
  have q2:=jB HRB.out 2
  have q3:=jB HRB.out 3
  have q4:=jB HRB.out 4
  have q5:=jB HRB.out 5
  go_wp2_with fail
  refine bodyPost_ret (v:=.tuple #[.agg #[.int .i64 0,.int .i64 0,.int .u64 0,.string ⟨#[]⟩,.slice none 0 0,.slice none 0 0],.int .i64 e]) (by simp[results,Try.results30,go_sem,z0,z1,z2,z3,z4,z5]) rfl ?_
  exact HFN.out
 subst h0
 have HV:Hid (qG 0 t):=(KA t.size t 0 (Nat.le_refl _)).1 HE.out
 have HFEW:Hid (Few t):=VS _ _ 0 (Nat.le_refl _) (by omega) HV.out
 have d0:=jA HB3.out 0 _ rfl
 have d1:=jA HB3.out 1 _ rfl
 have d2:=jA HB3.out 2 _ rfl
 have d3:=jA HB3.out 3 _ rfl
 have d4:=jA HB3.out 4 _ rfl
 have d5:=jA HB3.out 5 _ rfl
 go_wp2_with fail
 refine (YK _ _ (Nat.le_refl _) _ _ (HC.out.grew HGE.out) HFEW.out).mono ?_
 rintro r w4 ⟨v4,rfl,ho4,hg4⟩
 have HN4:=zh ho4.node
 have HG4:=zh (HGE.out.trans hg4)
 have HRB4:=zh (hg4.heap HRB.out)
 have HS4:Hid (N+2≤w4.heap.size):=Nat.le_trans H2.out (HG3.out.trans hg4).size
 clear ho4 hg4 d0 d1 d2 d3 d4 d5
 go_wp2_with fail
 refine (aP _ _ (Nat.le_refl _) 0 HV.out hz _ _ HN4.out).mono ?_
 rintro r w5 ⟨v5,rfl,ho5,hg5⟩
 obtain⟨yk,yn,yu,ys_,ya4,yn4,yc4,ya5,yn5,yc5,rfl⟩:=ho5.node6
 have HRB5:=zh (hg5.heap HRB4.out)
 have HFN:=zh (QS (t:=t) HN.out HS4.out ho5 (HG4.out.trans hg5) HE.out (.int .i64 yk) (.int .i64 yn) (.int .u64 yu) (.string ys_) (.slice ya4 yn4 yc4) (.slice ya5 yn5 yc5))
 clear ho5 hg5
 have z0:=jA HRB5.out 0 _ rfl
 have z1:=jA HRB5.out 1 _ rfl
 have z2:=jA HRB5.out 2 _ rfl
 have z3:=jA HRB5.out 3 _ rfl
 have z4:=jA HRB5.out 4 _ rfl
 have z5:=jA HRB5.out 5 _ rfl
 have q0:=jB HRB5.out 0
 have q1:=jB HRB5.out 1
 have q2:=jB HRB5.out 2
 have q3:=jB HRB5.out 3
 have q4:=jB HRB5.out 4
 have q5:=jB HRB5.out 5
 go_wp2_with fail
 refine bodyPost_ret (v:=.tuple #[.agg #[.int .i64 yk,.int .i64 yn,.int .u64 yu,.string ys_,.slice ya4 yn4 yc4,.slice ya5 yn5 yc5],.int .i64 0]) (by simp[results,Try.results30,go_sem,z0,z1,z2,z3,z4,z5]) rfl ?_
 exact HFN.out
theorem YV (t:Tr) (hz:t.size≤4096) (v:Value) (w:World) (hn:jL w t v):Calls Try.prog 11 #[v] w fun r w'=>KE w t (z6 t) r w':=by
 have HC:=zh hn
 obtain⟨xk,xn,xu,xs_,xa4,xn4,xc4,xa5,xn5,xc5,rfl⟩:=hn.node6
 clear hn
 obtain⟨N,hN⟩:∃N,w.heap.size=N:=⟨_,rfl⟩
 go_enter Try.func11,Try.ntmps11
 go_wp2_with fail
 have hb1:=heap_alloc_new w (.cells #[.int .i64 xk,.int .i64 xn,.int .u64 xu,.string xs_,.slice xa4 xn4 xc4,.slice xa5 xn5 xc5] 26)
 have hg1:=(jC.refl w).alloc (.cells #[.int .i64 xk,.int .i64 xn,.int .u64 xu,.string xs_,.slice xa4 xn4 xc4,.slice xa5 xn5 xc5] 26)
 have hs1:(w.alloc (.cells #[.int .i64 xk,.int .i64 xn,.int .u64 xu,.string xs_,.slice xa4 xn4 xc4,.slice xa5 xn5 xc5] 26)).heap.size=w.heap.size+1:=World.size_alloc _ _
 generalize (w.alloc (.cells #[.int .i64 xk,.int .i64 xn,.int .u64 xu,.string xs_,.slice xa4 xn4 xc4,.slice xa5 xn5 xc5] 26))=w1 at *
 have hb2:=heap_alloc_new w1 (.cells #[.int .i64 0,.int .i64 0,.int .u64 0,.string ⟨#[]⟩,.slice none 0 0,.slice none 0 0] 26)
 have hg2:=(jC.refl w1).alloc (.cells #[.int .i64 0,.int .i64 0,.int .u64 0,.string ⟨#[]⟩,.slice none 0 0,.slice none 0 0] 26)
 have hs2:(w1.alloc (.cells #[.int .i64 0,.int .i64 0,.int .u64 0,.string ⟨#[]⟩,.slice none 0 0,.slice none 0 0] 26)).heap.size=w1.heap.size+1:=World.size_alloc _ _
 generalize (w1.alloc (.cells #[.int .i64 0,.int .i64 0,.int .u64 0,.string ⟨#[]⟩,.slice none 0 0,.slice none 0 0] 26))=w2 at *
 rw[hs1,hN] at hb2 hs2
 rw[hN] at hb1
 replace hb1:=hg2.heap hb1
 have HG:=zh (hg1.trans hg2)
 have HB1:=zh hb1
 have HB2:=zh hb2
 have HN:=zh hN
 have H2:Hid (N+2≤w2.heap.size):=Nat.le_of_eq hs2.symm
 clear hb1 hb2 hg1 hg2 hs1 hs2 hN
 refine (QT t hz _ w2 (HC.out.grew HG.out)).mono ?_
 intro r w3 hs
 obtain⟨hg3,hs⟩:=hs
 have HG3:=zh hg3
 have HGX:=zh (HG.out.trans hg3)
 have HRX:=zh (hg3.heap HB2.out)
 clear hg3
 obtain⟨e,he⟩:∃e,z7 0 t=e:=⟨_,rfl⟩
 rw[he] at hs
 have HE:=zh he
 clear he
 rcases hs with ⟨h0,rfl⟩|⟨h0,sv,rfl,ho⟩
 ·have hb:(e != 0)=true:=by simpa using h0
  have hb2:(e == 0)=false:=by simpa using h0
  have H0:=zh h0
  clear h0
  go_upto_region 2 with fail
  have hb4:=heap_alloc_new w3 (.cells #[.int .i64 0,.int .i64 0,.int .u64 0,.string ⟨#[]⟩,.slice none 0 0,.slice none 0 0] 26)
  have hg4:=(jC.refl w3).alloc (.cells #[.int .i64 0,.int .i64 0,.int .u64 0,.string ⟨#[]⟩,.slice none 0 0,.slice none 0 0] 26)
  have hs4:(w3.alloc (.cells #[.int .i64 0,.int .i64 0,.int .u64 0,.string ⟨#[]⟩,.slice none 0 0,.slice none 0 0] 26)).heap.size=w3.heap.size+1:=World.size_alloc _ _
  generalize (w3.alloc (.cells #[.int .i64 0,.int .i64 0,.int .u64 0,.string ⟨#[]⟩,.slice none 0 0,.slice none 0 0] 26))=w4 at *
  have HGE:=zh (HGX.out.trans hg4)
  have HRB:=zh (hg4.heap HRX.out)
  clear hb4 hg4 hs4
  have HFN:=zh (VW (t':=z6 t) HN.out HGE.out HE.out H0.out (.int .i64 0) (.int .i64 0) (.int .u64 0) (.string ⟨#[]⟩) (.slice none 0 0) (.slice none 0 0))
  have z0:=jA HRB.out 0 _ rfl
  have z1:=jA HRB.out 1 _ rfl
  have z2:=jA HRB.out 2 _ rfl
  have z3:=jA HRB.out 3 _ rfl
  have z4:=jA HRB.out 4 _ rfl
  have z5:=jA HRB.out 5 _ rfl
  have q0:=jB HRB.out 0
  have q1:=jB HRB.out 1
  have q2:=jB HRB.out 2
  have q3:=jB HRB.out 3
  have q4:=jB HRB.out 4
  have q5:=jB HRB.out 5
  go_wp2_with fail
  refine bodyPost_ret (v:=.tuple #[.agg #[.int .i64 0,.int .i64 0,.int .u64 0,.string ⟨#[]⟩,.slice none 0 0,.slice none 0 0],.int .i64 e]) (by simp[results,Try.results11,go_sem,z0,z1,z2,z3,z4,z5]) rfl ?_
  exact HFN.out
 ·subst h0
  have HV:Hid (qG 0 t):=(KA t.size t 0 (Nat.le_refl _)).1 HE.out
  have HVS:=zh (ZH t.size t 0 (Nat.le_refl _) HV.out)
  obtain⟨yk,yn,yu,ys_,ya4,yn4,yc4,ya5,yn5,yc5,rfl⟩:=ho.node6
  have HO:=zh ho.node
  clear ho
  go_upto_region 2 with fail
  have hb4:=heap_alloc_new w3 (.cells #[.int .i64 yk,.int .i64 yn,.int .u64 yu,.string ys_,.slice ya4 yn4 yc4,.slice ya5 yn5 yc5] 26)
  have hg4:=(jC.refl w3).alloc (.cells #[.int .i64 yk,.int .i64 yn,.int .u64 yu,.string ys_,.slice ya4 yn4 yc4,.slice ya5 yn5 yc5] 26)
  have hs4:(w3.alloc (.cells #[.int .i64 yk,.int .i64 yn,.int .u64 yu,.string ys_,.slice ya4 yn4 yc4,.slice ya5 yn5 yc5] 26)).heap.size=w3.heap.size+1:=World.size_alloc _ _
  generalize (w3.alloc (.cells #[.int .i64 yk,.int .i64 yn,.int .u64 yu,.string ys_,.slice ya4 yn4 yc4,.slice ya5 yn5 yc5] 26))=w4 at *
  have HG4:=zh hg4
  have HRB:=zh (hg4.heap HRX.out)
  have d0:=jA hb4 0 _ rfl
  have d1:=jA hb4 1 _ rfl
  have d2:=jA hb4 2 _ rfl
  have d3:=jA hb4 3 _ rfl
  have d4:=jA hb4 4 _ rfl
  have d5:=jA hb4 5 _ rfl
  clear hb4 hs4 hg4
  go_wp2_with fail
  refine (rof_any _ _ (Nat.le_refl _) 0 HVS.out.1 (by rw[HVS.out.2];exact hz) _ _ (HO.out.grew HG4.out)).mono ?_
  rintro r w5 ⟨v5,rfl,ho5,hg5⟩
  obtain⟨rk,rn,ru,rs_,ra4,rn4,rc4,ra5,rn5,rc5,rfl⟩:=ho5.node6
  have HRB5:=zh (hg5.heap HRB.out)
  have HS4:Hid (N+2≤w4.heap.size):=Nat.le_trans H2.out (HG3.out.trans HG4.out).size
  have HFN:=zh (QS (t:=t) (t':=z6 t) HN.out HS4.out ho5 ((HGX.out.trans HG4.out).trans hg5) HE.out (.int .i64 rk) (.int .i64 rn) (.int .u64 ru) (.string rs_) (.slice ra4 rn4 rc4) (.slice ra5 rn5 rc5))
  clear ho5 hg5
  have z0:=jA HRB5.out 0 _ rfl
  have z1:=jA HRB5.out 1 _ rfl
  have z2:=jA HRB5.out 2 _ rfl
  have z3:=jA HRB5.out 3 _ rfl
  have z4:=jA HRB5.out 4 _ rfl
  have z5:=jA HRB5.out 5 _ rfl
  have q0:=jB HRB5.out 0
  have q1:=jB HRB5.out 1
  have q2:=jB HRB5.out 2
  have q3:=jB HRB5.out 3
  have q4:=jB HRB5.out 4
  have q5:=jB HRB5.out 5
  go_wp2_with fail
  refine bodyPost_ret (v:=.tuple #[.agg #[.int .i64 rk,.int .i64 rn,.int .u64 ru,.string rs_,.slice ra4 rn4 rc4,.slice ra5 rn5 rc5],.int .i64 0]) (by simp[results,Try.results11,go_sem,z0,z1,z2,z3,z4,z5]) rfl ?_
  exact HFN.out
theorem VX {w w':World} {t t':Tr} {r:Ending} (h:KE w t t' r w'):jC w w'∧∃(e k n u:Int) (s:ByteArray) (a4:Option Addr) (n4 c4:Nat) (a5:Option Addr) (n5 c5:Nat),r=.returned (.tuple #[.agg #[.int .i64 k,.int .i64 n,.int .u64 u,.string s,.slice a4 n4 c4,.slice a5 n5 c5],.int .i64 e])∧e=z7 0 t∧(e=0→jL w' t' (.agg #[.int .i64 k,.int .i64 n,.int .u64 u,.string s,.slice a4 n4 c4,.slice a5 n5 c5])):=by
 obtain⟨hg,⟨h0,rfl⟩|⟨h0,v,rfl,ho⟩⟩:=h
 ·exact⟨hg,z7 0 t,0,0,0,⟨#[]⟩,none,0,0,none,0,0,rfl,rfl,fun h=>absurd h h0⟩
 ·obtain⟨k,n,u,s,a4,n4,c4,a5,n5,c5,rfl⟩:=ho.node6
  exact⟨hg,0,k,n,u,s,a4,n4,c4,a5,n5,c5,rfl,h0.symm,fun _=>ho.node⟩
theorem VL (t1 t2:Tr) (v1 v2:Value) (w:World) (hn:jL w t1 v1) (hn2:jL w t2 v2) (hz1:t1.size≤4096) (hz2:t2.size≤4096):Calls Try.prog 16 #[v1,v2] w fun r w'=>∃b,r=.returned (.bool b)∧(b=true↔z7 0 t1=0∧z7 0 t2=0∧z6 t1=z6 t2)∧jC w w':=by
 have HC:=zh (And.intro hn hn2)
 obtain⟨ak,an,au,as_,aa4,an4,ac4,aa5,an5,ac5,rfl⟩:=hn.node6
 obtain⟨bk,bn,bu,bs,ba4,bn4,bc4,ba5,bn5,bc5,rfl⟩:=hn2.node6
 clear hn hn2
 go_enter Try.func16,Try.ntmps16
 go_wp2_with fail
 obtain⟨N,hN⟩:∃N,w.heap.size=N:=⟨_,rfl⟩
 have hb1:=heap_alloc_new w (.cells #[.int .i64 ak,.int .i64 an,.int .u64 au,.string as_,.slice aa4 an4 ac4,.slice aa5 an5 ac5] 26)
 have hgw1:=(jC.refl w).alloc (.cells #[.int .i64 ak,.int .i64 an,.int .u64 au,.string as_,.slice aa4 an4 ac4,.slice aa5 an5 ac5] 26)
 have hsw1:(w.alloc (.cells #[.int .i64 ak,.int .i64 an,.int .u64 au,.string as_,.slice aa4 an4 ac4,.slice aa5 an5 ac5] 26)).heap.size=w.heap.size+1:=World.size_alloc _ _
 generalize (w.alloc (.cells #[.int .i64 ak,.int .i64 an,.int .u64 au,.string as_,.slice aa4 an4 ac4,.slice aa5 an5 ac5] 26))=w1 at *
 have hb2:=heap_alloc_new w1 (.cells #[.int .i64 bk,.int .i64 bn,.int .u64 bu,.string bs,.slice ba4 bn4 bc4,.slice ba5 bn5 bc5] 26)
 have hgw2:=(jC.refl w1).alloc (.cells #[.int .i64 bk,.int .i64 bn,.int .u64 bu,.string bs,.slice ba4 bn4 bc4,.slice ba5 bn5 bc5] 26)
 have hsw2:(w1.alloc (.cells #[.int .i64 bk,.int .i64 bn,.int .u64 bu,.string bs,.slice ba4 bn4 bc4,.slice ba5 bn5 bc5] 26)).heap.size=w1.heap.size+1:=World.size_alloc _ _
 generalize (w1.alloc (.cells #[.int .i64 bk,.int .i64 bn,.int .u64 bu,.string bs,.slice ba4 bn4 bc4,.slice ba5 bn5 bc5] 26))=w2 at *
 rw[hsw1] at hb2
 skip
 replace hb1:=hgw2.heap hb1
 have HG:=zh (hgw1.trans hgw2)
 have HB1:=zh hb1
 have HB2:=zh hb2
 clear hb1 hb2 hgw1 hgw2 hsw1 hsw2 hN
 refine (YV t1 hz1 _ w2 (HC.out.1.grew HG.out)).mono ?_
 intro r w3 hh
 obtain⟨hg3,e1,xk,xn,xu,xs,xa4,xn4,xc4,xa5,xn5,xc5,rfl,he1,hx⟩:=VX hh
 have HX:=zh (And.intro he1 hx)
 have HG3:=zh (HG.out.trans hg3)
 have HB3:=zh (hg3.heap HB2.out)
 clear hh hg3 he1 hx HG
 have d0:=jA HB3.out 0 _ rfl
 have d1:=jA HB3.out 1 _ rfl
 have d2:=jA HB3.out 2 _ rfl
 have d3:=jA HB3.out 3 _ rfl
 have d4:=jA HB3.out 4 _ rfl
 have d5:=jA HB3.out 5 _ rfl
 go_upto_region 2 with fail
 have hb4:=heap_alloc_new w3 (.cells #[.int .i64 xk,.int .i64 xn,.int .u64 xu,.string xs,.slice xa4 xn4 xc4,.slice xa5 xn5 xc5] 26)
 have hgw4:=(jC.refl w3).alloc (.cells #[.int .i64 xk,.int .i64 xn,.int .u64 xu,.string xs,.slice xa4 xn4 xc4,.slice xa5 xn5 xc5] 26)
 have hsw4:(w3.alloc (.cells #[.int .i64 xk,.int .i64 xn,.int .u64 xu,.string xs,.slice xa4 xn4 xc4,.slice xa5 xn5 xc5] 26)).heap.size=w3.heap.size+1:=World.size_alloc _ _
 generalize (w3.alloc (.cells #[.int .i64 xk,.int .i64 xn,.int .u64 xu,.string xs,.slice xa4 xn4 xc4,.slice xa5 xn5 xc5] 26))=w4 at *
 have HB4:=zh hb4
 have HG4:=zh hgw4
 have HB3':=zh (hgw4.heap HB3.out)
 clear hb4 hgw4 hsw4 d0 d1 d2 d3 d4 d5
 have d0:=jA HB3'.out 0 _ rfl
 have d1:=jA HB3'.out 1 _ rfl
 have d2:=jA HB3'.out 2 _ rfl
 have d3:=jA HB3'.out 3 _ rfl
 have d4:=jA HB3'.out 4 _ rfl
 have d5:=jA HB3'.out 5 _ rfl
 go_wp2_with fail
 refine (YV t2 hz2 _ w4 (HC.out.2.grew (HG3.out.trans HG4.out))).mono ?_
 intro r w5 hh
 obtain⟨hg5,e2,yk,yn,yu,ys,ya4,yn4,yc4,ya5,yn5,yc5,rfl,he2,hy⟩:=VX hh
 have HY:=zh (And.intro he2 hy)
 have HG5:=zh hg5
 have HB5:=zh (hg5.heap HB4.out)
 clear hh hg5 he2 hy d0 d1 d2 d3 d4 d5
 go_upto_region 3 with fail
 have hb6:=heap_alloc_new w5 (.cells #[.int .i64 yk,.int .i64 yn,.int .u64 yu,.string ys,.slice ya4 yn4 yc4,.slice ya5 yn5 yc5] 26)
 have hgw6:=(jC.refl w5).alloc (.cells #[.int .i64 yk,.int .i64 yn,.int .u64 yu,.string ys,.slice ya4 yn4 yc4,.slice ya5 yn5 yc5] 26)
 have hsw6:(w5.alloc (.cells #[.int .i64 yk,.int .i64 yn,.int .u64 yu,.string ys,.slice ya4 yn4 yc4,.slice ya5 yn5 yc5] 26)).heap.size=w5.heap.size+1:=World.size_alloc _ _
 generalize (w5.alloc (.cells #[.int .i64 yk,.int .i64 yn,.int .u64 yu,.string ys,.slice ya4 yn4 yc4,.slice ya5 yn5 yc5] 26))=w6 at *
 have HG6:=zh hgw6
 have HB6:=zh (hgw6.heap HB5.out)
 have f0:=jA hb6 0 _ rfl
 have f1:=jA hb6 1 _ rfl
 have f2:=jA hb6 2 _ rfl
 have f3:=jA hb6 3 _ rfl
 have f4:=jA hb6 4 _ rfl
 have f5:=jA hb6 5 _ rfl
 have d0:=jA HB6.out 0 _ rfl
 have d1:=jA HB6.out 1 _ rfl
 have d2:=jA HB6.out 2 _ rfl
 have d3:=jA HB6.out 3 _ rfl
 have d4:=jA HB6.out 4 _ rfl
 have d5:=jA HB6.out 5 _ rfl
 clear hb6 hgw6 hsw6
 have HGA:Hid (jC w w6):=((HG3.out.trans HG4.out).trans HG5.out).trans HG6.out
 by_cases h1:e1=0
 rotate_left
 ·have hb:(e1 == 0)=false:=by simpa using h1
  have H1:=zh h1
  clear h1
  go_wp2_with fail
  go_ret
  exact⟨false,rfl,⟨fun h=>absurd h (by decide),fun h=>absurd (HX.out.1.trans h.1) H1.out⟩,HGA.out⟩
 by_cases h2:e2=0
 rotate_left
 ·have hb:(e2 == 0)=false:=by simpa using h2
  have hb1:(e1 == 0)=true:=by simpa using h1
  have H2:=zh h2
  clear h1 h2
  go_wp2_with fail
  go_ret
  exact⟨false,rfl,⟨fun h=>absurd h (by decide),fun h=>absurd (HY.out.1.trans h.2.1) H2.out⟩,HGA.out⟩
 have HNX:=zh ((HX.out.2 h1).grew ((HG4.out.trans HG5.out).trans HG6.out))
 have HNY:=zh ((HY.out.2 h2).grew HG6.out)
 have HE:Hid (z7 0 t1=0∧z7 0 t2=0):=⟨by rw[← HX.out.1];exact h1,by rw[← HY.out.1];exact h2⟩
 subst h1
 subst h2
 go_wp2_with fail
 refine (yV _ _ (Nat.le_refl _) _ _ _ _ HNX.out HNY.out).mono ?_
 rintro r w7 ⟨bb,rfl,hbb,hg⟩
 have HF:=zh (And.intro hbb (HGA.out.trans hg))
 clear hbb hg
 go_wp2_with fail
 go_ret
 exact⟨bb,rfl,⟨fun h=>⟨HE.out.1,HE.out.2,HF.out.1.1 h⟩,fun h=>HF.out.1.2 h.2.2⟩,HF.out.2⟩
theorem aS {t1 t2:Tr} (hz1:t1.size≤4096) (hz2:t2.size≤4096):(z7 0 t1=0∧z7 0 t2=0∧z6 t1=z6 t2)↔qM t1 t2:=by
 rw[JC hz1,JC hz2];rfl
end Go.Proofs.Ytfbeepkogcmlmaa
namespace Go.Proofs.Ytfbeepkogcmlmaa
open Go Go.ChangeShapes Go.WideShapes Go.ChangeAt Go.RowKit Go.Joins
open Go.ChangeMaps (open_string shut_string)
open Go.Deep
theorem KY (t0 t1:Tr) (v0 v1:Value) (W:World) (hn0:jL W t0 v0) (hn1:jL W t1 v1) :
 Calls Try.prog 4 #[v0,v1] W fun e w'=>e=.returned (.bool true)∧jC W w':=by
 have HA0:=zh hn0
 obtain⟨tak,tan,tau,tas,taa4,tan4,tac4,taa5,tan5,tac5,rfl⟩:=hn0.node6
 have HA1:=zh hn1
 obtain⟨uak,uan,uau,uas,uaa4,uan4,uac4,uaa5,uan5,uac5,rfl⟩:=hn1.node6
 clear hn0 hn1
 show Calls _ _ _ W fun e w'=>e=.returned (.bool true)∧jC W w'
 have HG:=zh (jC.refl W)
 go_enter Try.func4,Try.ntmps4
 go_upto_region 1 with fail
 obtain⟨pa,hpa⟩:∃N,W.heap.size=N:=⟨_,rfl⟩
 have hr1:=heap_alloc_new W (.cells #[.int .i64 tak,.int .i64 tan,.int .u64 tau,.string tas,.slice taa4 tan4 tac4,.slice taa5 tan5 tac5] 26)
 have hga:=(jC.refl W).alloc (.cells #[.int .i64 tak,.int .i64 tan,.int .u64 tau,.string tas,.slice taa4 tan4 tac4,.slice taa5 tan5 tac5] 26)
 have hz1:(W.alloc (.cells #[.int .i64 tak,.int .i64 tan,.int .u64 tau,.string tas,.slice taa4 tan4 tac4,.slice taa5 tan5 tac5] 26)).heap.size=pa+1:=by rw[World.size_alloc,hpa]
 generalize (W.alloc (.cells #[.int .i64 tak,.int .i64 tan,.int .u64 tau,.string tas,.slice taa4 tan4 tac4,.slice taa5 tan5 tac5] 26))=x1 at *
 rw[hpa] at hr1
 try rw[hpa]
 have HRA:=zh hr1
 clear hr1 hpa
 replace HA0:=zh (jL.grew hga HA0.out)
 replace HA1:=zh (jL.grew hga HA1.out)
 replace HG:=zh (HG.out.trans hga)
 clear hga
 have hr2:=heap_alloc_new x1 (.cells #[.int .i64 uak,.int .i64 uan,.int .u64 uau,.string uas,.slice uaa4 uan4 uac4,.slice uaa5 uan5 uac5] 26)
 have hga:=(jC.refl x1).alloc (.cells #[.int .i64 uak,.int .i64 uan,.int .u64 uau,.string uas,.slice uaa4 uan4 uac4,.slice uaa5 uan5 uac5] 26)
 generalize (x1.alloc (.cells #[.int .i64 uak,.int .i64 uan,.int .u64 uau,.string uas,.slice uaa4 uan4 uac4,.slice uaa5 uan5 uac5] 26))=x2 at *
 rw[hz1] at hr2
 try rw[hz1]
 have HRB:=zh hr2
 clear hr2 hz1
 replace HA0:=zh (jL.grew hga HA0.out)
 replace HA1:=zh (jL.grew hga HA1.out)
 replace HRA:=zh (hga.heap HRA.out)
 replace HG:=zh (HG.out.trans hga)
 clear hga
 have c0:=jA HRA.out 0 _ rfl
 have c1:=jA HRA.out 1 _ rfl
 have c2:=jA HRA.out 2 _ rfl
 have c3:=jA HRA.out 3 _ rfl
 have c4:=jA HRA.out 4 _ rfl
 have c5:=jA HRA.out 5 _ rfl
 have e0:=jA HRB.out 0 _ rfl
 have e1:=jA HRB.out 1 _ rfl
 have e2:=jA HRB.out 2 _ rfl
 have e3:=jA HRB.out 3 _ rfl
 have e4:=jA HRB.out 4 _ rfl
 have e5:=jA HRB.out 5 _ rfl
 refine JP jC 6 [[],[0],[],[0,1,2],[],[],[0,1,2,3,4,5],[0,1,2,3,4,5,6]] [[(9,2),(5,4),(6,5)],[(7,0),(9,2),(5,4),(6,5)],[(7,0),(8,1),(5,4),(6,5)],[(7,0),(8,1),(9,2),(5,4),(6,5)],[(7,0),(8,1),(9,2),(10,3),(6,5)],[(7,0),(8,1),(9,2),(10,3),(5,4)],[(7,0),(8,1),(9,2),(10,3),(5,4),(6,5)],[(7,0),(8,1),(9,2),(10,3),(5,4),(6,5)]] [(7,0),(8,1),(9,2),(10,3),(5,4),(6,5)]
  [Is (.agg #[.int .i64 tak,.int .i64 tan,.int .u64 tau,.string tas,.slice taa4 tan4 tac4,.slice taa5 tan5 tac5]),Nd (zQ t0),Is (.agg #[.int .i64 uak,.int .i64 uan,.int .u64 uau,.string uas,.slice uaa4 uan4 uac4,.slice uaa5 uan5 uac5]),Nd (zQ t1),fun v w=>∃S,JD v S w,fun v w=>∃S,JD v S w]
  [none,some (ZS x2.heap.size (zQ t0)),none,some (ZS x2.heap.size (zQ t1)),some (JD),some (JD)]
  zk jC.trans jC.refl (jC.refl _).drew zk ⟨jG,Nd.st _,jG,Nd.st _,fun _ _ _ hg ⟨S,h⟩=>⟨S,JD.st _ _ _ _ hg h⟩,fun _ _ _ hg ⟨S,h⟩=>⟨S,JD.st _ _ _ _ hg h⟩,trivial⟩ (fun _ _ h=>jC.size h) ⟨ZS.st _ _,ZS.st _ _,JD.st,JD.st,trivial⟩ rfl ?_ ?_
 rotate_left
 ·intro y w2 hG hF hS
  simp only[zH,Is,and_true,Nat.reduceAdd] at hF
  have h0:=hF.1
  have h1:=hF.2.1
  have h2:=hF.2.2.1
  have h3:=hF.2.2.2.1
  have h4:=hF.2.2.2.2.1
  have h5:=hF.2.2.2.2.2
  clear hF
  simp only[jD,Act.put,zq1,zq2,zq3,zq4,zq5,List.drop_succ_cons,List.drop_zero]
  simp only[h0,h2]
  clear h0 h2
  obtain⟨σ,hS⟩:=hS
  have hs1:=hS.said 1 (by decide) _ rfl
  obtain⟨fk,fn,fu,fs,fa4,fn4,fc4,fa5,fn5,fc5,e1⟩:=hs1.node6
  rw[e1] at hs1
  have hs3:=hS.said 3 (by decide) _ rfl
  obtain⟨uk,un,uu,us,ua4,un4,uc4,ua5,un5,uc5,e3⟩:=hs3.node6
  rw[e3] at hs3
  obtain⟨gx,e4,hσ4,hz4⟩:=hS.said 4 (by decide) _ rfl
  have hbg4:=(hS.bound 4 (by decide) gx hσ4).1
  obtain⟨gy,e5,hσ5,hz5⟩:=hS.said 5 (by decide) _ rfl
  have hbg5:=(hS.bound 5 (by decide) gy hσ5).1
  simp only[e1,e3,e4,e5]
  have HGG:=zh (HG.out.trans hG)
  have HGX:=zh hG
  refine vQ rfl _ _ rfl rfl gx fk fn fu fs fa4 fn4 fc4 fa5 fn5 fc5 rfl rfl _ _ _ _ _ _ hz4 ?_
  intro v1 hm HRr
  replace hs1:jW v1 _ _ _ (σ 1):=jW.kept hm hs1 (fun g' hg' e=>hS.apart 1 4 (by decide) (by decide) (by decide) g' hg' (by rw[e];exact hσ4))
  replace hs3:jW v1 _ _ _ (σ 3):=jW.kept hm hs3 (fun g' hg' e=>hS.apart 3 4 (by decide) (by decide) (by decide) g' hg' (by rw[e];exact hσ4))
  replace hz5:=hm.heap hz5 (fun e=>hS.apart 5 4 (by decide) (by decide) (by decide) gy hσ5 (by rw[show gy=gx from e];exact hσ4))
  replace HGG:=zh (Moved.fresh HGG.out hm (fun g' e=>by have h1:=HG.out.size;have h2:=hbg4;have h3:g'=gx:=e;omega))
  replace HGX:=zh (Moved.fresh HGX.out hm (fun g' e=>by have h2:=hbg4;have h3:g'=gx:=e;omega))
  clear hm
  refine vQ rfl _ _ rfl rfl gy uk un uu us ua4 un4 uc4 ua5 un5 uc5 rfl rfl _ _ _ _ _ _ hz5 ?_
  intro v2 hm HQr
  replace hs1:jW v2 _ _ _ (σ 1):=jW.kept hm hs1 (fun g' hg' e=>hS.apart 1 5 (by decide) (by decide) (by decide) g' hg' (by rw[e];exact hσ5))
  replace hs3:jW v2 _ _ _ (σ 3):=jW.kept hm hs3 (fun g' hg' e=>hS.apart 3 5 (by decide) (by decide) (by decide) g' hg' (by rw[e];exact hσ5))
  replace HRr:=hm.heap HRr (fun e=>hS.apart 4 5 (by decide) (by decide) (by decide) gx hσ4 (by rw[show gx=gy from e];exact hσ5))
  replace HGG:=zh (Moved.fresh HGG.out hm (fun g' e=>by have h1:=HG.out.size;have h2:=hbg5;have h3:g'=gy:=e;omega))
  replace HGX:=zh (Moved.fresh HGX.out hm (fun g' e=>by have h2:=hbg5;have h3:g'=gy:=e;omega))
  clear hm
  have HT:Hid (jL v2 (zQ t0) (.agg #[.int .i64 fk,.int .i64 fn,.int .u64 fu,.string fs,.slice fa4 fn4 fc4,.slice fa5 fn5 fc5])):=hs1.node
  have HU:Hid (jL v2 (zQ t1) (.agg #[.int .i64 uk,.int .i64 un,.int .u64 uu,.string us,.slice ua4 un4 uc4,.slice ua5 un5 uc5])):=hs3.node
  have HR:=zh HRr
  have HQ:=zh HQr
  replace HG:=HGG
  clear HGG hG hS hs1 h1 e1 hs3 h3 e3 hz4 hσ4 hbg4 e4 HRr hz5 hσ5 hbg5 e5 HQr
  have HG0:=zh (show jC x2 v2 from HGX.out)
  replace HRA:=zh (HG0.out.heap HRA.out)
  replace HRB:=zh (HG0.out.heap HRB.out)
  replace HA0:=zh (jL.grew HG0.out HA0.out)
  replace HA1:=zh (jL.grew HG0.out HA1.out)
  clear c0 c1 c2 c3 c4 c5 e0 e1 e2 e3 e4 e5
  have r0:=jA HR.out 0 _ rfl
  have r1:=jA HR.out 1 _ rfl
  have r2:=jA HR.out 2 _ rfl
  have r3:=jA HR.out 3 _ rfl
  have r4:=jA HR.out 4 _ rfl
  have r5:=jA HR.out 5 _ rfl
  have q0:=jA HQ.out 0 _ rfl
  have q1:=jA HQ.out 1 _ rfl
  have q2:=jA HQ.out 2 _ rfl
  have q3:=jA HQ.out 3 _ rfl
  have q4:=jA HQ.out 4 _ rfl
  have q5:=jA HQ.out 5 _ rfl
  have c0:=jA HRA.out 0 _ rfl
  have c1:=jA HRA.out 1 _ rfl
  have c2:=jA HRA.out 2 _ rfl
  have c3:=jA HRA.out 3 _ rfl
  have c4:=jA HRA.out 4 _ rfl
  have c5:=jA HRA.out 5 _ rfl
  have e0:=jA HRB.out 0 _ rfl
  have e1:=jA HRB.out 1 _ rfl
  have e2:=jA HRB.out 2 _ rfl
  have e3:=jA HRB.out 3 _ rfl
  have e4:=jA HRB.out 4 _ rfl
  have e5:=jA HRB.out 5 _ rfl
  have hz0:=KC t0
  have hz1:=KC t1
  obtain⟨hv,hhv⟩:∃b:Bool,(b=true↔qM (zQ t0) (zQ t1)):=by classical exact⟨decide (qM (zQ t0) (zQ t1)),by simp⟩
  have HC1:Hid (∀w,jL w (zQ t0) (.agg #[.int .i64 fk,.int .i64 fn,.int .u64 fu,.string fs,.slice fa4 fn4 fc4,.slice fa5 fn5 fc5])→jL w (zQ t1) (.agg #[.int .i64 uk,.int .i64 un,.int .u64 uu,.string us,.slice ua4 un4 uc4,.slice ua5 un5 uc5])→Calls Try.prog 15 #[.agg #[.int .i64 fk,.int .i64 fn,.int .u64 fu,.string fs,.slice fa4 fn4 fc4,.slice fa5 fn5 fc5],.agg #[.int .i64 uk,.int .i64 un,.int .u64 uu,.string us,.slice ua4 un4 uc4,.slice ua5 un5 uc5]] w fun r w'=>r=.returned (.bool hv)∧jC w w'):=fun w h1 h2=>(qR _ _ _ _ w h1 h2 (by omega) (by omega)).mono (by
   rintro r w' ⟨b,rfl,hb,hg⟩
   exact⟨by rw[show b=hv from Bool.eq_iff_iff.2 (hb.trans hhv.symm)],hg⟩)
  have HC2:Hid (∀w,jL w (zQ t0) (.agg #[.int .i64 fk,.int .i64 fn,.int .u64 fu,.string fs,.slice fa4 fn4 fc4,.slice fa5 fn5 fc5])→jL w (zQ t1) (.agg #[.int .i64 uk,.int .i64 un,.int .u64 uu,.string us,.slice ua4 un4 uc4,.slice ua5 un5 uc5])→Calls Try.prog 16 #[.agg #[.int .i64 fk,.int .i64 fn,.int .u64 fu,.string fs,.slice fa4 fn4 fc4,.slice fa5 fn5 fc5],.agg #[.int .i64 uk,.int .i64 un,.int .u64 uu,.string us,.slice ua4 un4 uc4,.slice ua5 un5 uc5]] w fun r w'=>r=.returned (.bool hv)∧jC w w'):=fun w h1 h2=>(VL _ _ _ _ w h1 h2 (by omega) (by omega)).mono (by
   rintro r w' ⟨b,rfl,hb,hg⟩
   exact⟨by rw[show b=hv from Bool.eq_iff_iff.2 ((hb.trans (aS (by omega) (by omega))).trans hhv.symm)],hg⟩)
  clear hhv hz0 hz1
  go_upto_region 2 with fail
  refine kN jC [[],[],[0,1],[],[],[0,1,2,3,4],[0,1,2,3,4,5],[0,1,2,3,4,5,6],[0,1,2,3,4,5,6,7],[0,1,2,3,4,5,6,7],[0,1,2,3,4,5,6,7,9],[0,1,2,3,4,5,6,7,8,9,10],[0,1,2,3,4,5,6,7,8,9,10,11],[0,1,2,3,4,5,6,7,8,9,10,11,12],[0,1,2,3,4,5,6,7,8,9,10,11,12,13],[0,1,2,3,4,5,6,7,8,9,10,11,12,13],[0,1,2,3,4,5,6,7,8,9,10,11,12,13,15],[0,1,2,3,4,5,6,7,8,9,10,11,12,13,14,15,16],[0,1,2,3,4,5,6,7,8,9,10,11,12,13,14,15,16,17],[0,1,2,3,4,5,6,7,8,9,10,11,12,13,14,15,16,17,18],[0,1,2,3,4,5,6,7,8,9,10,11,12,13,14,15,16,17,18,19],[0,1,2,3,4,5,6,7,8,9,10,11,12,13,14,15,16,17,18,19,20],[0,1,2,3,4,5,6,7,8,9,10,11,12,13,14,15,16,17,18,19,20,21]] [[(12,1),(14,3),(15,4)],[(11,0),(14,3),(15,4)],[(11,0),(12,1),(14,3),(15,4)],[(11,0),(12,1),(13,2),(15,4)],[(11,0),(12,1),(13,2),(14,3)],[(11,0),(12,1),(13,2),(14,3),(15,4)],[(11,0),(12,1),(13,2),(14,3),(15,4),(16,5)],[(11,0),(12,1),(13,2),(14,3),(15,4),(16,5),(17,6)],[(11,0),(12,1),(13,2),(14,3),(15,4),(16,5),(17,6),(18,7),(20,9),(21,10)],[(11,0),(12,1),(13,2),(14,3),(15,4),(16,5),(17,6),(18,7),(19,8)],[(11,0),(12,1),(13,2),(14,3),(15,4),(16,5),(17,6),(18,7),(19,8),(20,9)],[(11,0),(12,1),(13,2),(14,3),(15,4),(16,5),(17,6),(18,7),(19,8),(20,9),(21,10)],[(11,0),(12,1),(13,2),(14,3),(15,4),(16,5),(17,6),(18,7),(19,8),(20,9),(21,10),(22,11)],[(11,0),(12,1),(13,2),(14,3),(15,4),(16,5),(17,6),(18,7),(19,8),(20,9),(21,10),(22,11),(23,12)],[(11,0),(12,1),(13,2),(14,3),(15,4),(16,5),(17,6),(18,7),(19,8),(20,9),(21,10),(22,11),(23,12),(24,13),(26,15),(27,16)],[(11,0),(12,1),(13,2),(14,3),(15,4),(16,5),(17,6),(18,7),(19,8),(20,9),(21,10),(22,11),(23,12),(24,13),(25,14)],[(11,0),(12,1),(13,2),(14,3),(15,4),(16,5),(17,6),(18,7),(19,8),(20,9),(21,10),(22,11),(23,12),(24,13),(25,14),(26,15)],[(11,0),(12,1),(13,2),(14,3),(15,4),(16,5),(17,6),(18,7),(19,8),(20,9),(21,10),(22,11),(23,12),(24,13),(25,14),(26,15),(27,16)],[(11,0),(12,1),(13,2),(14,3),(15,4),(16,5),(17,6),(18,7),(19,8),(20,9),(21,10),(22,11),(23,12),(24,13),(25,14),(26,15),(27,16),(28,17)],[(11,0),(12,1),(13,2),(14,3),(15,4),(16,5),(17,6),(18,7),(19,8),(20,9),(21,10),(22,11),(23,12),(24,13),(25,14),(26,15),(27,16),(28,17),(29,18)],[(11,0),(12,1),(13,2),(14,3),(15,4),(16,5),(17,6),(18,7),(19,8),(20,9),(21,10),(22,11),(23,12),(24,13),(25,14),(26,15),(27,16),(28,17),(29,18),(30,19)],[(11,0),(12,1),(13,2),(14,3),(15,4),(16,5),(17,6),(18,7),(19,8),(20,9),(21,10),(22,11),(23,12),(24,13),(25,14),(26,15),(27,16),(28,17),(29,18),(30,19),(31,20)],[(11,0),(12,1),(13,2),(14,3),(15,4),(16,5),(17,6),(18,7),(19,8),(20,9),(21,10),(22,11),(23,12),(24,13),(25,14),(26,15),(27,16),(28,17),(29,18),(30,19),(31,20),(32,21)]] [(11,0),(12,1),(13,2),(14,3),(15,4),(16,5),(17,6),(18,7),(19,8),(20,9),(21,10),(22,11),(23,12),(24,13),(25,14),(26,15),(27,16),(28,17),(29,18),(30,19),(31,20),(32,21),(4,22)]
   [Is (.agg #[.int .i64 fk,.int .i64 fn,.int .u64 fu,.string fs,.slice fa4 fn4 fc4,.slice fa5 fn5 fc5]),Is (.agg #[.int .i64 uk,.int .i64 un,.int .u64 uu,.string us,.slice ua4 un4 uc4,.slice ua5 un5 uc5]),Is (.bool hv),Is (.agg #[.int .i64 fk,.int .i64 fn,.int .u64 fu,.string fs,.slice fa4 fn4 fc4,.slice fa5 fn5 fc5]),Is (.agg #[.int .i64 uk,.int .i64 un,.int .u64 uu,.string us,.slice ua4 un4 uc4,.slice ua5 un5 uc5]),Is (.bool hv),Is (.bool true),Is (.bool true),Is (.agg #[.int .i64 fk,.int .i64 fn,.int .u64 fu,.string fs,.slice fa4 fn4 fc4,.slice fa5 fn5 fc5]),Is (.agg #[.int .i64 tak,.int .i64 tan,.int .u64 tau,.string tas,.slice taa4 tan4 tac4,.slice taa5 tan5 tac5]),Nd (zQ t0),Is (.bool true),Is (.bool true),Is (.bool true),Is (.agg #[.int .i64 uk,.int .i64 un,.int .u64 uu,.string us,.slice ua4 un4 uc4,.slice ua5 un5 uc5]),Is (.agg #[.int .i64 uak,.int .i64 uan,.int .u64 uau,.string uas,.slice uaa4 uan4 uac4,.slice uaa5 uan5 uac5]),Nd (zQ t1),Is (.bool true),Is (.bool true),Is (.bool true),Is (.bool true),Is (.bool true),Is (.bool true)]
   zk jC.trans jC.refl (jC.refl _).drew zk ⟨jG,jG,jG,jG,jG,jG,jG,jG,jG,jG,Nd.st _,jG,jG,jG,jG,jG,Nd.st _,jG,jG,jG,jG,jG,jG,trivial⟩ ?_ rfl ?_
  rotate_left
  ·intro y w2 hG hF
   simp only[zH,Is,and_true,Nat.reduceAdd] at hF
   have hlast:=hF.2.2.2.2.2.2.2.2.2.2.2.2.2.2.2.2.2.2.2.2.2.2
   clear hF
   simp only[jD,Act.put,zq1,zq2,zq3,zq4,zq5,hlast]
   have HGF:=zh (HG.out.trans hG)
   clear hG hlast
   go_wp2_with fail
   go_ret
   exact⟨rfl,HGF.out⟩
  refine⟨?_,?_⟩
  ·intro y w2 hG hD K hK
   have dr0:=hG.cell r0
   have dr1:=hG.cell r1
   have dr2:=hG.cell r2
   have dr3:=hG.cell r3
   have dr4:=hG.cell r4
   have dr5:=hG.cell r5
   exact zsr
  refine⟨?_,?_⟩
  ·intro y w2 hG hD K hK
   have dq0:=hG.cell q0
   have dq1:=hG.cell q1
   have dq2:=hG.cell q2
   have dq3:=hG.cell q3
   have dq4:=hG.cell q4
   have dq5:=hG.cell q5
   exact zsr
  refine⟨?_,?_⟩
  ·intro y w2 hG hD K hK
   simp only[jM,zq4,zq5,Is,and_true] at hD
   simp only[jD,Act.put,zq1,zq2,zq3,zq4,zq5,Is] at hK⊢
   simp only[hD] at hK⊢
   clear hD
   refine jF ?_
   go_simp
   refine (HC1.out w2 (jL.grew hG HT.out) (jL.grew hG HU.out)).mono ?_
   rintro r w3 ⟨rfl,hg3⟩
   exact hK _ _ _ rfl hg3 rfl
  refine⟨?_,?_⟩
  ·intro y w2 hG hD K hK
   have dr0:=hG.cell r0
   have dr1:=hG.cell r1
   have dr2:=hG.cell r2
   have dr3:=hG.cell r3
   have dr4:=hG.cell r4
   have dr5:=hG.cell r5
   exact zsr
  refine⟨?_,?_⟩
  ·intro y w2 hG hD K hK
   have dq0:=hG.cell q0
   have dq1:=hG.cell q1
   have dq2:=hG.cell q2
   have dq3:=hG.cell q3
   have dq4:=hG.cell q4
   have dq5:=hG.cell q5
   exact zsr
  refine⟨?_,?_⟩
  ·intro y w2 hG hD K hK
   simp only[jM,zq4,zq5,Is,and_true] at hD
   simp only[jD,Act.put,zq1,zq2,zq3,zq4,zq5,Is] at hK⊢
   simp only[hD] at hK⊢
   clear hD
   refine jF ?_
   go_simp
   refine (HC2.out w2 (jL.grew hG HT.out) (jL.grew hG HU.out)).mono ?_
   rintro r w3 ⟨rfl,hg3⟩
   exact hK _ _ _ rfl hg3 rfl
  refine⟨?_,?_⟩
  ·intro y w2 hG hD K hK
   simp only[jM,zq4,zq5,Is,and_true] at hD
   simp only[jD,Act.put,zq1,zq2,zq3,zq4,zq5,Is] at hK⊢
   simp only[hD] at hK⊢
   clear hD
   refine jF ?_
   go_simp
   exact hK _ _ _ rfl (jC.refl _) (by first | rfl | (show Value.bool _=Value.bool _;simp) | (show _=_;simp))
  refine⟨zst,?_⟩
  refine⟨?_,?_⟩
  ·intro y w2 hG hD K hK
   have dr0:=hG.cell r0
   have dr1:=hG.cell r1
   have dr2:=hG.cell r2
   have dr3:=hG.cell r3
   have dr4:=hG.cell r4
   have dr5:=hG.cell r5
   exact zsr
  refine⟨?_,?_⟩
  ·intro y w2 hG hD K hK
   have dc0:=hG.cell c0
   have dc1:=hG.cell c1
   have dc2:=hG.cell c2
   have dc3:=hG.cell c3
   have dc4:=hG.cell c4
   have dc5:=hG.cell c5
   exact zsr
  refine⟨?_,?_⟩
  ·intro y w2 hG hD K hK
   simp only[jM,zq4,zq5,Is,and_true] at hD
   simp only[jD,Act.put,zq1,zq2,zq3,zq4,zq5,Is] at hK⊢
   simp only[hD] at hK⊢
   clear hD
   refine jF ?_
   go_simp
   refine (KD t0 _ w2 (jL.grew hG HA0.out)).mono ?_
   rintro r w3 ⟨v',rfl,hw,hg3⟩
   exact hK _ _ _ rfl hg3 hw
  refine⟨?_,?_⟩
  ·intro y w2 hG hD K hK
   simp only[jM,zq4,zq5,Is,and_true] at hD
   have h10:=hD.2.2.2.2.2.2.2.2.2.2
   simp only[jD,Act.put,zq1,zq2,zq3,zq4,zq5,Is] at hK⊢
   simp only[hD] at hK⊢
   clear hD
   refine jF ?_
   go_simp
   refine (yV _ (zQ t0) (Nat.le_refl _) (zQ t0) _ _ w2 (jL.grew hG HT.out) h10).mono ?_
   rintro r w3 ⟨bb,rfl,hbb,hg3⟩
   obtain rfl:bb=true:=hbb.2 rfl
   exact hK _ _ _ rfl hg3 rfl
  refine⟨zst,zst,?_⟩
  refine⟨?_,?_⟩
  ·intro y w2 hG hD K hK
   have dq0:=hG.cell q0
   have dq1:=hG.cell q1
   have dq2:=hG.cell q2
   have dq3:=hG.cell q3
   have dq4:=hG.cell q4
   have dq5:=hG.cell q5
   exact zsr
  refine⟨?_,?_⟩
  ·intro y w2 hG hD K hK
   have de0:=hG.cell e0
   have de1:=hG.cell e1
   have de2:=hG.cell e2
   have de3:=hG.cell e3
   have de4:=hG.cell e4
   have de5:=hG.cell e5
   exact zsr
  refine⟨?_,?_⟩
  ·intro y w2 hG hD K hK
   simp only[jM,zq4,zq5,Is,and_true] at hD
   simp only[jD,Act.put,zq1,zq2,zq3,zq4,zq5,Is] at hK⊢
   simp only[hD] at hK⊢
   clear hD
   refine jF ?_
   go_simp
   refine (KD t1 _ w2 (jL.grew hG HA1.out)).mono ?_
   rintro r w3 ⟨v',rfl,hw,hg3⟩
   exact hK _ _ _ rfl hg3 hw
  refine⟨?_,?_⟩
  ·intro y w2 hG hD K hK
   simp only[jM,zq4,zq5,Is,and_true] at hD
   have h16:=hD.2.2.2.2.2.2.2.2.2.2.2.2.2.2.2.2
   simp only[jD,Act.put,zq1,zq2,zq3,zq4,zq5,Is] at hK⊢
   simp only[hD] at hK⊢
   clear hD
   refine jF ?_
   go_simp
   refine (yV _ (zQ t1) (Nat.le_refl _) (zQ t1) _ _ w2 (jL.grew hG HU.out) h16).mono ?_
   rintro r w3 ⟨bb,rfl,hbb,hg3⟩
   obtain rfl:bb=true:=hbb.2 rfl
   exact hK _ _ _ rfl hg3 rfl
  refine⟨zst,zst,?_⟩
  refine⟨?_,?_⟩
  ·intro y w2 hG hD K hK
   simp only[jM,zq4,zq5,Is,and_true] at hD
   simp only[jD,Act.put,zq1,zq2,zq3,zq4,zq5,Is] at hK⊢
   simp only[hD] at hK⊢
   clear hD
   refine jF ?_
   go_simp
   refine (vG w2).mono ?_
   rintro r w3 ⟨rfl,hg3⟩
   exact hK _ _ _ rfl hg3 rfl
  refine⟨zst,zst,?_⟩
  trivial
 refine⟨?_,?_⟩
 ·intro y w2 hG hD K hK
  have dc0:=hG.cell c0
  have dc1:=hG.cell c1
  have dc2:=hG.cell c2
  have dc3:=hG.cell c3
  have dc4:=hG.cell c4
  have dc5:=hG.cell c5
  simp only[jD,Act.put,zq1,zq2,zq3,zq4,zq5,Is] at hK⊢
  refine jF ?_
  go_simp
  exact hK _ _ _ rfl (jC.refl _) rfl trivial
 refine⟨?_,?_⟩
 ·intro y w2 hG hD K hK
  simp only[jM,zq4,zq5,Is,and_true] at hD
  simp only[jD,Act.put,zq1,zq2,zq3,zq4,zq5,Is] at hK⊢
  simp only[hD] at hK⊢
  clear hD
  refine jF ?_
  go_simp
  refine (JE t0 _ w2 (jL.grew hG HA0.out)).mono ?_
  rintro r w3 ⟨v',rfl,ho,hg3⟩
  exact hK _ _ _ rfl hg3 ho.node (ZS.made hG.size ho)
 refine⟨?_,?_⟩
 ·intro y w2 hG hD K hK
  have de0:=hG.cell e0
  have de1:=hG.cell e1
  have de2:=hG.cell e2
  have de3:=hG.cell e3
  have de4:=hG.cell e4
  have de5:=hG.cell e5
  simp only[jD,Act.put,zq1,zq2,zq3,zq4,zq5,Is] at hK⊢
  refine jF ?_
  go_simp
  exact hK _ _ _ rfl (jC.refl _) rfl trivial
 refine⟨?_,?_⟩
 ·intro y w2 hG hD K hK
  simp only[jM,zq4,zq5,Is,and_true] at hD
  simp only[jD,Act.put,zq1,zq2,zq3,zq4,zq5,Is] at hK⊢
  simp only[hD] at hK⊢
  clear hD
  refine jF ?_
  go_simp
  refine (JE t1 _ w2 (jL.grew hG HA1.out)).mono ?_
  rintro r w3 ⟨v',rfl,ho,hg3⟩
  exact hK _ _ _ rfl hg3 ho.node (ZS.made hG.size ho)
 refine⟨?_,?_⟩
 ·intro y w2 hG hD K hK
  simp only[jD,Act.put,zq1,zq2,zq3,zq4,zq5,Is] at hK⊢
  refine jF ?_
  go_simp
  obtain⟨S,hS1,hS2⟩:=JD.made w2
  exact hK _ _ _ rfl ((jC.refl _).alloc _) ⟨S,hS1⟩ ⟨S,hS1,hS2⟩
 refine⟨?_,?_⟩
 ·intro y w2 hG hD K hK
  simp only[jD,Act.put,zq1,zq2,zq3,zq4,zq5,Is] at hK⊢
  refine jF ?_
  go_simp
  obtain⟨S,hS1,hS2⟩:=JD.made w2
  exact hK _ _ _ rfl ((jC.refl _).alloc _) ⟨S,hS1⟩ ⟨S,hS1,hS2⟩
 trivial
theorem QU (w:World) (B:Nat) (S:Nat→Prop):jW w B (.mk 0 0 0 ⟨#[]⟩ [] []) j7 S:=by
 simp only[jW]
 refine⟨⟨by unfold jQ;omega,by unfold jQ;omega,by unfold j9;omega,by unfold jI;decide,by simp⟩,.slice none 0 0,.slice none 0 0,[],fun _=>False,rfl,kD.nil _ _,kK.nil _ _,(fun g e=>by cases e),(fun g e=>by cases e),(fun g e=>by cases e),(fun g (e:False)=>e.elim),rfl⟩
theorem of_own {w w':World} {t:Tr} {r:Ending} (h:QR w t r w'):jC w w'∧∃ta v,r=.returned (.tuple #[v,.int .i64 (kL t)])∧jW w' w.heap.size ta v (jX w w')∧ta=(if kL t=0 then z6 t else .mk 0 0 0 ⟨#[]⟩ [] []):=by
 obtain⟨hg,⟨h0,rfl⟩|⟨h0,v,S,rfl,ho,hf⟩⟩:=h
 ·exact⟨hg,_,_,rfl,QU _ _ _,by rw[if_neg h0]⟩
 ·exact⟨hg,z6 t,v,by rw[h0],jW.mono ho hf,by rw[if_pos h0]⟩
theorem ref_own {w w':World} {t:Tr} {r:Ending} (h:KE w t (z6 t) r w'):jC w w'∧∃ta v,r=.returned (.tuple #[v,.int .i64 (z7 0 t)])∧jW w' w.heap.size ta v (jX w w')∧ta=(if z7 0 t=0 then z6 t else .mk 0 0 0 ⟨#[]⟩ [] []):=by
 obtain⟨hg,⟨h0,rfl⟩|⟨h0,v,rfl,ho⟩⟩:=h
 ·exact⟨hg,_,_,rfl,QU _ _ _,by rw[if_neg h0]⟩
 ·exact⟨hg,z6 t,v,by rw[h0],ho,by rw[if_pos h0]⟩
theorem k8 (t:Tr) (v:Value) (W:World) (hn:jL W t v) (hd:z7 0 (zQ t)=kL (zQ t)) :
 Calls Try.prog 3 #[v] W fun r w'=>r=.returned (.bool true)∧jC W w':=by
 have HA:=zh hn
 obtain⟨tk,tn,tu,ts,ta4,tn4,tc4,ta5,tn5,tc5,rfl⟩:=hn.node6
 have HD:=zh hd
 have hsz:=KC t
 clear hn hd
 go_enter Try.func3,Try.ntmps3
 go_upto_region 1 with fail
 have hb_:=heap_alloc_new W (.cells #[.int .i64 tk,.int .i64 tn,.int .u64 tu,.string ts,.slice ta4 tn4 tc4,.slice ta5 tn5 tc5] 26)
 have hg_:=(jC.refl W).alloc (.cells #[.int .i64 tk,.int .i64 tn,.int .u64 tu,.string ts,.slice ta4 tn4 tc4,.slice ta5 tn5 tc5] 26)
 have hs_:(W.alloc (.cells #[.int .i64 tk,.int .i64 tn,.int .u64 tu,.string ts,.slice ta4 tn4 tc4,.slice ta5 tn5 tc5] 26)).heap.size=W.heap.size+1:=World.size_alloc _ _
 generalize (W.alloc (.cells #[.int .i64 tk,.int .i64 tn,.int .u64 tu,.string ts,.slice ta4 tn4 tc4,.slice ta5 tn5 tc5] 26))=w1 at *
 have HB1:=zh hb_
 have HG1:=zh hg_
 have HS1:=zh hs_
 clear hb_ hg_ hs_
 have c0:=jA HB1.out 0 _ rfl
 have c1:=jA HB1.out 1 _ rfl
 have c2:=jA HB1.out 2 _ rfl
 have c3:=jA HB1.out 3 _ rfl
 have c4:=jA HB1.out 4 _ rfl
 have c5:=jA HB1.out 5 _ rfl
 go_wp2_with fail
 refine (JE t _ w1 (HA.out.grew HG1.out)).mono ?_
 rintro r w2 ⟨v',rfl,ho,hg⟩
 obtain⟨fk,fn,fu,fs,fa4,fn4,fc4,fa5,fn5,fc5,rfl⟩:=ho.node6
 have HIN:=zh ho
 have HG2:=zh hg
 have HB12:=zh (hg.heap HB1.out)
 clear ho hg c0 c1 c2 c3 c4 c5
 go_upto_region 2 with fail
 have hb_:=heap_alloc_new w2 (.cells #[.int .i64 fk,.int .i64 fn,.int .u64 fu,.string fs,.slice fa4 fn4 fc4,.slice fa5 fn5 fc5] 26)
 have hg_:=(jC.refl w2).alloc (.cells #[.int .i64 fk,.int .i64 fn,.int .u64 fu,.string fs,.slice fa4 fn4 fc4,.slice fa5 fn5 fc5] 26)
 have hs_:(w2.alloc (.cells #[.int .i64 fk,.int .i64 fn,.int .u64 fu,.string fs,.slice fa4 fn4 fc4,.slice fa5 fn5 fc5] 26)).heap.size=w2.heap.size+1:=World.size_alloc _ _
 generalize (w2.alloc (.cells #[.int .i64 fk,.int .i64 fn,.int .u64 fu,.string fs,.slice fa4 fn4 fc4,.slice fa5 fn5 fc5] 26))=w3 at *
 have HB3:=zh hb_
 have HG3:=zh hg_
 have HS3:=zh hs_
 clear hb_ hg_ hs_
 have d0:=jA HB3.out 0 _ rfl
 have d1:=jA HB3.out 1 _ rfl
 have d2:=jA HB3.out 2 _ rfl
 have d3:=jA HB3.out 3 _ rfl
 have d4:=jA HB3.out 4 _ rfl
 have d5:=jA HB3.out 5 _ rfl
 go_wp2_with fail
 refine (ZR (zQ t) _ w3 (HIN.out.node.grew HG3.out) (by omega)).mono ?_
 intro r w4 hh
 obtain⟨hg4,ta,va,rfl,hoa,hta⟩:=of_own hh
 obtain⟨xk,xn,xu,xs,xa4,xn4,xc4,xa5,xn5,xc5,rfl⟩:=hoa.node6
 have HOA:=zh hoa
 have HTA:=zh hta
 have HG4:=zh hg4
 have HB34:=zh (hg4.heap HB3.out)
 clear hh hg4 hoa hta d0 d1 d2 d3 d4 d5
 go_upto_region 3 with fail
 have hb_:=heap_alloc_new w4 (.cells #[.int .i64 xk,.int .i64 xn,.int .u64 xu,.string xs,.slice xa4 xn4 xc4,.slice xa5 xn5 xc5] 26)
 have hg_:=(jC.refl w4).alloc (.cells #[.int .i64 xk,.int .i64 xn,.int .u64 xu,.string xs,.slice xa4 xn4 xc4,.slice xa5 xn5 xc5] 26)
 have hs_:(w4.alloc (.cells #[.int .i64 xk,.int .i64 xn,.int .u64 xu,.string xs,.slice xa4 xn4 xc4,.slice xa5 xn5 xc5] 26)).heap.size=w4.heap.size+1:=World.size_alloc _ _
 generalize (w4.alloc (.cells #[.int .i64 xk,.int .i64 xn,.int .u64 xu,.string xs,.slice xa4 xn4 xc4,.slice xa5 xn5 xc5] 26))=w5 at *
 have HB5:=zh hb_
 have HG5:=zh hg_
 have HS5:=zh hs_
 clear hb_ hg_ hs_
 have HB35:=zh (HG5.out.heap HB34.out)
 have d0:=jA HB35.out 0 _ rfl
 have d1:=jA HB35.out 1 _ rfl
 have d2:=jA HB35.out 2 _ rfl
 have d3:=jA HB35.out 3 _ rfl
 have d4:=jA HB35.out 4 _ rfl
 have d5:=jA HB35.out 5 _ rfl
 go_wp2_with fail
 refine (YV (zQ t) (by omega) _ w5 (HIN.out.node.grew ((HG3.out.trans HG4.out).trans HG5.out))).mono ?_
 intro r w6 hh
 obtain⟨hg6,tb,vb,rfl,hob,htb⟩:=ref_own hh
 rw[HD.out,← HTA.out] at htb
 subst htb
 rw[HD.out]
 obtain⟨yk,yn,yu,ys,ya4,yn4,yc4,ya5,yn5,yc5,rfl⟩:=hob.node6
 have HOB:=zh hob
 have HG6:=zh hg6
 have HB56:=zh (hg6.heap HB5.out)
 have HB36:=zh (hg6.heap HB35.out)
 clear hh hg6 hob d0 d1 d2 d3 d4 d5
 generalize kL (zQ t)=ee at *
 go_upto_region 4 with fail
 have hb_:=heap_alloc_new w6 (.cells #[.int .i64 yk,.int .i64 yn,.int .u64 yu,.string ys,.slice ya4 yn4 yc4,.slice ya5 yn5 yc5] 26)
 have hg_:=(jC.refl w6).alloc (.cells #[.int .i64 yk,.int .i64 yn,.int .u64 yu,.string ys,.slice ya4 yn4 yc4,.slice ya5 yn5 yc5] 26)
 have hs_:(w6.alloc (.cells #[.int .i64 yk,.int .i64 yn,.int .u64 yu,.string ys,.slice ya4 yn4 yc4,.slice ya5 yn5 yc5] 26)).heap.size=w6.heap.size+1:=World.size_alloc _ _
 generalize (w6.alloc (.cells #[.int .i64 yk,.int .i64 yn,.int .u64 yu,.string ys,.slice ya4 yn4 yc4,.slice ya5 yn5 yc5] 26))=w7 at *
 have HB7:=zh hb_
 have HG7:=zh hg_
 have HS7:=zh hs_
 clear hb_ hg_ hs_
 have HB57:=zh (HG7.out.heap HB56.out)
 have p0:=jA HB57.out 0 _ rfl
 have p1:=jA HB57.out 1 _ rfl
 have p2:=jA HB57.out 2 _ rfl
 have p3:=jA HB57.out 3 _ rfl
 have p4:=jA HB57.out 4 _ rfl
 have p5:=jA HB57.out 5 _ rfl
 have q0:=jA HB7.out 0 _ rfl
 have q1:=jA HB7.out 1 _ rfl
 have q2:=jA HB7.out 2 _ rfl
 have q3:=jA HB7.out 3 _ rfl
 have q4:=jA HB7.out 4 _ rfl
 have q5:=jA HB7.out 5 _ rfl
 have hee:(ee == ee)=true:=by simp
 go_wp2_with fail
 refine (yV _ tb (Nat.le_refl _) tb _ _ w7 (HOA.out.node.grew ((HG5.out.trans HG6.out).trans HG7.out)) (HOB.out.node.grew HG7.out)).mono ?_
 rintro r w8 ⟨bb,rfl,hbb,hg8⟩
 obtain rfl:bb=true:=hbb.2 rfl
 have HG8:=zh hg8
 clear hbb p0 p1 p2 p3 p4 p5 q0 q1 q2 q3 q4 q5
 have HB58:=zh (hg8.heap HB57.out)
 clear hg8
 have p0:=jA HB58.out 0 _ rfl
 have p1:=jA HB58.out 1 _ rfl
 have p2:=jA HB58.out 2 _ rfl
 have p3:=jA HB58.out 3 _ rfl
 have p4:=jA HB58.out 4 _ rfl
 have p5:=jA HB58.out 5 _ rfl
 go_wp2_with fail
 have HG48:=zh (((HG5.out.trans HG6.out).trans HG7.out).trans HG8.out)
 refine (aR _ tb (Nat.le_refl _) _ w8 w3.heap.size (jX w3 w4) (HOA.out.grew HG48.out) (fun g hg=>Nat.lt_of_lt_of_le hg.2 HG48.out.size)).mono ?_
 rintro r w9 ⟨rfl,hm⟩
 have HG28:=zh ((HG3.out.trans HG4.out).trans HG48.out)
 have HGW8:=zh ((HG1.out.trans HG2.out).trans HG28.out)
 have hs1:=HS1.out
 have hs3:=HS3.out
 have hz2:=HG2.out.size
 have HIN9:Hid (jL w9 (zQ t) (.agg #[.int .i64 fk,.int .i64 fn,.int .u64 fu,.string fs,.slice fa4 fn4 fc4,.slice fa5 fn5 fc5])):=(jW.kept hm (HIN.out.grew HG28.out) (fun g hg e=>by have h1:=hg.2;have h2:=e.1;omega)).node
 have HGW9:Hid (jC W w9):=Moved.fresh HGW8.out hm (fun g e=>by have h2:=e.1;omega)
 have HA9:=zh (HA.out.grew HGW9.out)
 have HB19:=zh (hm.heap ((HG2.out.trans HG28.out).heap HB1.out) (fun e=>by have h2:=e.1;omega))
 have HB39:=zh (hm.heap ((HG4.out.trans HG48.out).heap HB3.out) (fun e=>by have h2:=e.1;omega))
 clear hm p0 p1 p2 p3 p4 p5
 have c0:=jA HB19.out 0 _ rfl
 have c1:=jA HB19.out 1 _ rfl
 have c2:=jA HB19.out 2 _ rfl
 have c3:=jA HB19.out 3 _ rfl
 have c4:=jA HB19.out 4 _ rfl
 have c5:=jA HB19.out 5 _ rfl
 have d0:=jA HB39.out 0 _ rfl
 have d1:=jA HB39.out 1 _ rfl
 have d2:=jA HB39.out 2 _ rfl
 have d3:=jA HB39.out 3 _ rfl
 have d4:=jA HB39.out 4 _ rfl
 have d5:=jA HB39.out 5 _ rfl
 go_upto_region 6 with fail
 refine kN jC [[],[0],[1],[1],[1,3],[1,2,4],[1,5],[6],[7],[7,8],[9]] [[(33,2),(34,3),(35,4),(36,5),(37,6),(38,7),(39,8),(40,9),(2,10)],[(31,0),(38,7),(39,8),(40,9),(2,10)],[(31,0),(32,1),(34,3),(35,4),(37,6),(38,7),(39,8),(40,9),(2,10)],[(31,0),(32,1),(33,2),(36,5),(37,6),(38,7),(39,8),(40,9),(2,10)],[(31,0),(32,1),(33,2),(34,3),(37,6),(38,7),(39,8),(40,9),(2,10)],[(31,0),(32,1),(33,2),(34,3),(35,4),(38,7),(39,8),(40,9),(2,10)],[(31,0),(32,1),(33,2),(34,3),(35,4),(36,5),(39,8),(40,9),(2,10)],[(31,0),(32,1),(33,2),(34,3),(35,4),(36,5),(37,6),(2,10)],[(31,0),(32,1),(33,2),(34,3),(35,4),(36,5),(37,6),(38,7),(2,10)],[(31,0),(32,1),(33,2),(34,3),(35,4),(36,5),(37,6),(38,7),(39,8)],[(31,0),(32,1),(33,2),(34,3),(35,4),(36,5),(37,6),(38,7),(39,8),(40,9)]] [(31,0),(32,1),(33,2),(34,3),(35,4),(36,5),(37,6),(38,7),(39,8),(40,9),(2,10)]
  [Is (.bool true),Is (.bool true),Is (.agg #[.int .i64 fk,.int .i64 fn,.int .u64 fu,.string fs,.slice fa4 fn4 fc4,.slice fa5 fn5 fc5]),Is (.agg #[.int .i64 tk,.int .i64 tn,.int .u64 tu,.string ts,.slice ta4 tn4 tc4,.slice ta5 tn5 tc5]),Nd (zQ t),Is (.bool true),Is (.bool true),Is (.bool true),Is (.bool true),Is (.bool true),Is (.bool true)]
  zk jC.trans jC.refl (jC.refl _).drew zk ⟨jG,jG,jG,jG,Nd.st _,jG,jG,jG,jG,jG,jG,trivial⟩ ?_ rfl ?_
 rotate_left
 ·intro y wz hG hF
  simp only[zH,Is,and_true,Nat.reduceAdd] at hF
  have hlast:=hF.2.2.2.2.2.2.2.2.2.2
  clear hF
  simp only[jD,Act.put,zq1,zq2,zq3,zq4,zq5,hlast]
  have HGF:=zh (HGW9.out.trans hG)
  clear hG
  go_wp2_with fail
  go_ret
  exact⟨rfl,HGF.out⟩
 refine⟨?_,?_⟩
 ·intro y wz hG hD K hK
  generalize hA:jD y _ _=A at hK⊢
  simp only[jD,Act.put,zq1,zq2,zq3,zq4,zq5,Is] at hA
  subst hA
  refine jF ?_
  go_simp
  exact hK _ _ _ rfl (jC.refl _) rfl
 refine⟨?_,?_⟩
 ·intro y wz hG hD K hK
  simp only[jM,zq4,zq5,Is,and_true] at hD
  have h0:=hD
  clear hD
  generalize hA:jD y _ _=A at hK⊢
  simp only[jD,Act.put,zq1,zq2,zq3,zq4,zq5,Is] at hA
  subst hA
  simp only[h0] at hK⊢
  clear h0
  refine jF ?_
  go_simp
  exact hK _ _ _ rfl (jC.refl _) rfl
 refine⟨?_,?_⟩
 ·intro y wz hG hD K hK
  simp only[jM,zq4,zq5,Is,and_true] at hD
  have h1:=hD
  clear hD
  have dd0:=hG.cell d0
  have dd1:=hG.cell d1
  have dd2:=hG.cell d2
  have dd3:=hG.cell d3
  have dd4:=hG.cell d4
  have dd5:=hG.cell d5
  generalize hA:jD y _ _=A at hK⊢
  simp only[jD,Act.put,zq1,zq2,zq3,zq4,zq5,Is] at hA
  subst hA
  simp only[h1] at hK⊢
  clear h1
  refine jF ?_
  go_simp
  exact hK _ _ _ rfl (jC.refl _) rfl
 refine⟨?_,?_⟩
 ·intro y wz hG hD K hK
  simp only[jM,zq4,zq5,Is,and_true] at hD
  have h1:=hD
  clear hD
  have dc0:=hG.cell c0
  have dc1:=hG.cell c1
  have dc2:=hG.cell c2
  have dc3:=hG.cell c3
  have dc4:=hG.cell c4
  have dc5:=hG.cell c5
  generalize hA:jD y _ _=A at hK⊢
  simp only[jD,Act.put,zq1,zq2,zq3,zq4,zq5,Is] at hA
  subst hA
  simp only[h1] at hK⊢
  clear h1
  refine jF ?_
  go_simp
  exact hK _ _ _ rfl (jC.refl _) rfl
 refine⟨?_,?_⟩
 ·intro y wz hG hD K hK
  simp only[jM,zq4,zq5,Is,and_true] at hD
  have h1:=hD.1
  have h3:=hD.2
  clear hD
  generalize hA:jD y _ _=A at hK⊢
  simp only[jD,Act.put,zq1,zq2,zq3,zq4,zq5,Is] at hA
  subst hA
  simp only[h1,h3] at hK⊢
  clear h1 h3
  refine jF ?_
  go_simp
  refine (KD t _ wz (jL.grew hG HA9.out)).mono ?_
  rintro r w3 ⟨v',rfl,ho,hg3⟩
  exact hK _ _ _ rfl hg3 ho
 refine⟨?_,?_⟩
 ·intro y wz hG hD K hK
  simp only[jM,zq4,zq5,Is,and_true] at hD
  have h1:=hD.1
  have h2:=hD.2.1
  have h4:=hD.2.2
  clear hD
  generalize hA:jD y _ _=A at hK⊢
  simp only[jD,Act.put,zq1,zq2,zq3,zq4,zq5,Is] at hA
  subst hA
  simp only[h1,h2] at hK⊢
  clear h1 h2
  refine jF ?_
  go_simp
  refine (yV _ (zQ t) (Nat.le_refl _) (zQ t) _ _ wz (jL.grew hG HIN9.out) h4).mono ?_
  rintro r w3 ⟨b,rfl,hb,hg3⟩
  obtain rfl:b=true:=hb.2 rfl
  exact hK _ _ _ rfl hg3 rfl
 refine⟨?_,?_⟩
 ·intro y wz hG hD K hK
  simp only[jM,zq4,zq5,Is,and_true] at hD
  have h1:=hD.1
  have h5:=hD.2
  clear hD
  generalize hA:jD y _ _=A at hK⊢
  simp only[jD,Act.put,zq1,zq2,zq3,zq4,zq5,Is] at hA
  subst hA
  simp only[h1,h5] at hK⊢
  clear h1 h5
  refine jF ?_
  go_simp
  exact hK _ _ _ rfl (jC.refl _) rfl
 refine⟨?_,?_⟩
 ·intro y wz hG hD K hK
  simp only[jM,zq4,zq5,Is,and_true] at hD
  have h6:=hD
  clear hD
  generalize hA:jD y _ _=A at hK⊢
  simp only[jD,Act.put,zq1,zq2,zq3,zq4,zq5,Is] at hA
  subst hA
  simp only[h6] at hK⊢
  clear h6
  refine jF ?_
  go_simp
  exact hK _ _ _ rfl (jC.refl _) rfl
 refine⟨?_,?_⟩
 ·intro y wz hG hD K hK
  simp only[jM,zq4,zq5,Is,and_true] at hD
  have h7:=hD
  clear hD
  generalize hA:jD y _ _=A at hK⊢
  simp only[jD,Act.put,zq1,zq2,zq3,zq4,zq5,Is] at hA
  subst hA
  simp only[h7] at hK⊢
  clear h7
  refine jF ?_
  go_simp
  refine (vG wz).mono ?_
  rintro r w3 ⟨rfl,hg3⟩
  exact hK _ _ _ rfl hg3 rfl
 refine⟨?_,?_⟩
 ·intro y wz hG hD K hK
  simp only[jM,zq4,zq5,Is,and_true] at hD
  have h7:=hD.1
  have h8:=hD.2
  clear hD
  generalize hA:jD y _ _=A at hK⊢
  simp only[jD,Act.put,zq1,zq2,zq3,zq4,zq5,Is] at hA
  subst hA
  simp only[h7,h8] at hK⊢
  clear h7 h8
  refine jF ?_
  go_simp
  exact hK _ _ _ rfl (jC.refl _) rfl
 refine⟨?_,?_⟩
 ·intro y wz hG hD K hK
  simp only[jM,zq4,zq5,Is,and_true] at hD
  have h9:=hD
  clear hD
  generalize hA:jD y _ _=A at hK⊢
  simp only[jD,Act.put,zq1,zq2,zq3,zq4,zq5,Is] at hA
  subst hA
  simp only[h9] at hK⊢
  clear h9
  refine jF ?_
  go_simp
  exact hK _ _ _ rfl (jC.refl _) rfl
 trivial
end Go.Proofs.Ytfbeepkogcmlmaa
namespace Go.Proofs.Ytfbeepkogcmlmaa
open Go Go.ChangeShapes Go.WideShapes Go.ChangeAt Go.RowKit Go.Joins Go.Deep
def endsL:List Int:=[0,1,127,128,2147483647,9223372036854775807,9223372036854775808,18446744073709551615]
theorem ends_ok:∀u∈endsL,0≤u∧u≤18446744073709551615:=by decide
def LU (u:Int):List Tr:=[.mk 4 0 u ⟨#[]⟩ [] [],.mk 9 0 u ⟨#[]⟩ [] [],.mk 3 (IntKind.i64.wrap u) 0 ⟨#[]⟩ [] [],.mk 8 (IntKind.i64.wrap u) 0 ⟨#[]⟩ [] []]
theorem JS (k n u:Int) (h:jJ (.mk k n u ⟨#[]⟩ [] [])=true) (hk:kU (.mk k n u ⟨#[]⟩ [] [])=0):kL (.mk k n u ⟨#[]⟩ [] [])=0:=by
 rw[check_val]
 refine⟨by show (1:Nat)+0≤4096;decide,?_⟩
 simp only[qG,Z0]
 exact⟨by decide,h,hk,trivial⟩
theorem JT (k n u:Int) (h:(k=4∧n=0)∨(k=9∧n=0)∨(k=3∧u=0)∨(k=8∧u=0)):jJ (.mk k n u ⟨#[]⟩ [] [])=true∧kU (.mk k n u ⟨#[]⟩ [] [])=0:=by
 rcases h with ⟨rfl,rfl⟩|⟨rfl,rfl⟩|⟨rfl,rfl⟩|⟨rfl,rfl⟩
 all_goals exact⟨by kernel_rfl,by kernel_rfl⟩
theorem vH {u:Int} {x:Tr} (h:x∈LU u):kL x=0∧zQ x=x∧jJ x=true∧kU x=0:=by
 simp only[LU,List.mem_cons,List.not_mem_nil,or_false] at h
 rcases h with rfl|rfl|rfl|rfl
 ·have hs:=JT 4 0 u (.inl ⟨rfl,rfl⟩);exact⟨JS _ _ _ hs.1 hs.2,by kernel_rfl,hs⟩
 ·have hs:=JT 9 0 u (.inr (.inl ⟨rfl,rfl⟩));exact⟨JS _ _ _ hs.1 hs.2,by kernel_rfl,hs⟩
 ·have hs:=JT 3 (IntKind.i64.wrap u) 0 (.inr (.inr (.inl ⟨rfl,rfl⟩)));exact⟨JS _ _ _ hs.1 hs.2,by kernel_rfl,hs⟩
 ·have hs:=JT 8 (IntKind.i64.wrap u) 0 (.inr (.inr (.inr ⟨rfl,rfl⟩)));exact⟨JS _ _ _ hs.1 hs.2,by kernel_rfl,hs⟩
def yP (t:Tr):Prop:=z7 0 (zQ t)=kL (zQ t)
theorem QV {t:Tr} (h:kL t=0) (hc:zQ t=t) (hz:t.size≤4096):yP t:=by
 unfold yP
 rw[hc,h]
 exact (JC hz).2 h
theorem bT {u:Int} {x:Tr} (h:x∈LU u):yP x:=by
 obtain⟨h1,h2,_⟩:=vH h
 exact QV h1 h2 (by rw[check_val] at h1;exact h1.1)
theorem bU (u:Int):yP (.mk 10 0 0 ⟨#[]⟩ [] (LU u)):=by
 refine QV ?_ zk (by simp[Tr.size,kI,LU])
 rw[check_val]
 refine⟨by simp[Tr.size,kI,LU],?_⟩
 simp only[qG]
 refine⟨by decide,by kernel_rfl,by kernel_rfl,?_⟩
 rw[valL_iff]
 intro x hx
 obtain⟨_,_,h3,h4⟩:=vH hx
 simp only[LU,List.mem_cons,List.not_mem_nil,or_false] at hx
 rcases hx with rfl|rfl|rfl|rfl
 all_goals
  simp only[qG,Z0]
  exact⟨by decide,h3,h4,trivial⟩
theorem JU (k n u:Int) (h:k≠17):z6 (.mk k n u ⟨#[]⟩ [] [])=zO k n u ⟨#[]⟩ [] []:=by
 rw[nor_eq,if_neg h]
 rfl
theorem bV {u:Int} (h0:0≤u) (h1:u≤18446744073709551615) {k n:Nat} {a b:Tr} (ha:(LU u)[k]? = some a) (hb:(LU u)[n]? = some b):qM a b↔(k / 2=n / 2∨u < 9223372036854775808):=by
 have ca:=(vH (List.mem_of_getElem? ha)).1
 have cb:=(vH (List.mem_of_getElem? hb)).1
 have hk:k < 4:=(List.getElem?_eq_some_iff.1 ha).1
 have hn:n < 4:=(List.getElem?_eq_some_iff.1 hb).1
 have e4:z6 (.mk 4 0 u ⟨#[]⟩ [] [])=if u < 9223372036854775808 then .mk 3 u 0 ⟨#[]⟩ [] [] else .mk 4 0 u ⟨#[]⟩ [] []:=by rw[JU _ _ _ (by decide)];unfold zO;rw[if_pos (.inl rfl)]
 have e9:z6 (.mk 9 0 u ⟨#[]⟩ [] [])=if u < 9223372036854775808 then .mk 3 u 0 ⟨#[]⟩ [] [] else .mk 4 0 u ⟨#[]⟩ [] []:=by rw[JU _ _ _ (by decide)];unfold zO;rw[if_pos (.inr rfl)]
 have e3:z6 (.mk 3 (IntKind.i64.wrap u) 0 ⟨#[]⟩ [] [])=.mk 3 (IntKind.i64.wrap u) 0 ⟨#[]⟩ [] []:=by rw[JU _ _ _ (by decide)];rfl
 have e8:z6 (.mk 8 (IntKind.i64.wrap u) 0 ⟨#[]⟩ [] [])=.mk 3 (IntKind.i64.wrap u) 0 ⟨#[]⟩ [] []:=by rw[JU _ _ _ (by decide)];rfl
 have hw:u < 9223372036854775808→IntKind.i64.wrap u=u:=fun h=>by rw[IntKind.wrap_i64];omega
 unfold qM
 rw[ca,cb]
 simp only[true_and]
 have hx:∀x y:Tr,(x=.mk 3 u 0 ⟨#[]⟩ [] []∧y=.mk 3 u 0 ⟨#[]⟩ [] [])→(x=y↔True):=fun x y h=>by rw[h.1,h.2];simp
 by_cases hu:u < 9223372036854775808
 ·rw[if_pos hu] at e4 e9
  rw[hw hu] at e3 e8
  have qH:∀x∈LU u,z6 x=.mk 3 u 0 ⟨#[]⟩ [] []:=fun x hx=>by
   simp only[LU,List.mem_cons,List.not_mem_nil,or_false] at hx
   rw[hw hu] at hx
   rcases hx with rfl|rfl|rfl|rfl
   ·exact e4
   ·exact e9
   ·exact e3
   ·exact e8
  rw[qH a (List.mem_of_getElem? ha),qH b (List.mem_of_getElem? hb)]
  simp[hu]
 ·rw[if_neg hu] at e4 e9
  have hf:∀q,q < 4→∀x,(LU u)[q]? = some x→z6 x=if q / 2=0 then .mk 4 0 u ⟨#[]⟩ [] [] else .mk 3 (IntKind.i64.wrap u) 0 ⟨#[]⟩ [] []:=fun q hq x hx=>by
   match q,hq with
   | 0,_=>simp[LU] at hx;subst hx;exact e4
   | 1,_=>simp[LU] at hx;subst hx;exact e9
   | 2,_=>simp[LU] at hx;subst hx;exact e3
   | 3,_=>simp[LU] at hx;subst hx;exact e8
  rw[hf k hk a ha,hf n hn b hb]
  have hq1:k / 2=0∨k / 2=1:=by omega
  have hq2:n / 2=0∨n / 2=1:=by omega
  rcases hq1 with q1|q1<;>rcases hq2 with q2|q2<;>simp[q1,q2,hu]
theorem kd_a:∀k:Nat,k < 19→yP (.mk k 0 0 ⟨#[]⟩ [] []):=by unfold yP;decide +kernel
theorem kd_b:∀k:Nat,k < 19→yP (.mk k 0 0 ⟨#[97]⟩ [] []):=by unfold yP;decide +kernel
theorem kd_c:∀k:Nat,k < 19→yP (.mk k 0 0 ⟨#[]⟩ [] [.mk 3 1 0 ⟨#[]⟩ [] [],.mk 3 2 0 ⟨#[]⟩ [] []]):=by unfold yP;decide +kernel
theorem kd_d:∀k:Nat,k < 19→yP (.mk k 0 0 ⟨#[]⟩ [] [.mk 4 0 1 ⟨#[]⟩ [] [],.mk 4 0 2 ⟨#[]⟩ [] []]):=by unfold yP;decide +kernel
theorem kd_e:∀k:Nat,k < 19→yP (.mk 10 0 0 ⟨#[]⟩ [] [.mk k 0 0 ⟨#[]⟩ [] []]):=by unfold yP;decide +kernel
end Go.Proofs.Ytfbeepkogcmlmaa
