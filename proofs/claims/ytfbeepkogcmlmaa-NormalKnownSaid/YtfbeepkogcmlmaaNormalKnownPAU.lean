/-
  Texts of the proof.
-/
import Derived.Test.YtfbeepkogcmlmaaNormalKnownPAQ
import Derived.Deep.RegionWith
set_option linter.unusedVariables false
set_option linter.unusedSimpArgs false
set_option maxHeartbeats 32000000
set_option maxRecDepth 100000
namespace Go.Proofs.Ytfbeepkogcmlmaa
open Go Go.ChangeShapes Go.WideShapes Go.ChangeAt Go.RowKit Go.Joins Go.Deep
def QR (w:World) (t:Tr) (r:Ending) (w':World):Prop:=
 jC w w'∧((kL t≠0∧r=.returned (.tuple #[j7,.int .i64 (kL t)]))∨(kL t=0∧∃v S,r=.returned (.tuple #[v,.int .i64 0])∧jW w' w.heap.size (ofT (kB t)) v S∧∀g,S g→jX w w' g))
theorem ZR (t:Tr) (v:Value) (w:World) (hn:jL w t v) (hsz:t.size≤1099511627776):Calls Try.prog 10 #[v] w fun r w'=>QR w t r w':=by
 have HC:=zh hn
 obtain⟨k,n,u,s,a4,n4,c4,a5,n5,c5,rfl⟩:=hn.node6
 obtain⟨N,hN⟩:∃N,w.heap.size=N:=⟨_,rfl⟩
 go_enter Try.func10,Try.ntmps10
 go_wp2_with fail
 have hb1:=heap_alloc_new w (.cells #[.int .i64 k,.int .i64 n,.int .u64 u,.string s,.slice a4 n4 c4,.slice a5 n5 c5] 26)
 have hg1:=(jC.refl w).alloc (.cells #[.int .i64 k,.int .i64 n,.int .u64 u,.string s,.slice a4 n4 c4,.slice a5 n5 c5] 26)
 have hs1:(w.alloc (.cells #[.int .i64 k,.int .i64 n,.int .u64 u,.string s,.slice a4 n4 c4,.slice a5 n5 c5] 26)).heap.size=w.heap.size+1:=World.size_alloc _ _
 generalize (w.alloc (.cells #[.int .i64 k,.int .i64 n,.int .u64 u,.string s,.slice a4 n4 c4,.slice a5 n5 c5] 26))=w1 at *
 have hb2:=heap_alloc_new w1 (.cells #[.int .i64 0,.int .i64 0,.int .u64 0,.string ⟨#[]⟩,.slice none 0 0,.slice none 0 0] 26)
 have hg2:=(jC.refl w1).alloc (.cells #[.int .i64 0,.int .i64 0,.int .u64 0,.string ⟨#[]⟩,.slice none 0 0,.slice none 0 0] 26)
 rw[hs1,hN] at hb2
 generalize (w1.alloc (.cells #[.int .i64 0,.int .i64 0,.int .u64 0,.string ⟨#[]⟩,.slice none 0 0,.slice none 0 0] 26))=w2 at *
 rw[hN] at hb1
 replace hb1:=hg2.heap hb1
 have hG:=hg1.trans hg2
 have HN:=zh hN
 have H2:Hid (N+1 < w2.heap.size∧w.heap.size≤w2.heap.size):=⟨(Array.getElem?_eq_some_iff.1 hb2).1,hG.size⟩
 clear hs1 hg1 hg2 hn hN
 refine (VB t _ _ (HC.out.grew hG) hsz).mono ?_
 intro r w3 hs
 obtain⟨hg3,hs⟩:=hs
 replace hG:=hG.trans hg3
 replace hb2:=hg3.heap hb2
 have hsz2:=(Array.getElem?_eq_some_iff.1 hb2).1
 have HG:=zh hG
 have HG3:=zh hg3
 have HB:=zh hb2
 clear hG hb1
 obtain⟨e,he⟩:∃e,kL t=e:=⟨_,rfl⟩
 have HE:=zh he
 rw[he] at hs
 rcases hs with ⟨h0,rfl⟩|⟨h0,sv,S,rfl,ho,hf⟩
 ·have hb:(e == 0)=false:=by simpa using h0
  have H0:=zh h0
  clear he h0 hg3
  rw[show j7=.agg #[.int .i64 0,.int .i64 0,.int .u64 0,.string ⟨#[]⟩,.slice none 0 0,.slice none 0 0] from rfl]
  go_upto_region 2 with fail
  have hg4:=(jC.refl w3).alloc (.cells #[.int .i64 0,.int .i64 0,.int .u64 0,.string ⟨#[]⟩,.slice none 0 0,.slice none 0 0] 26)
  have hb4:=hg4.heap HB.out
  have HG4:=zh (HG.out.trans hg4)
  generalize (w3.alloc (.cells #[.int .i64 0,.int .i64 0,.int .u64 0,.string ⟨#[]⟩,.slice none 0 0,.slice none 0 0] 26))=w4 at *
  have z0:=jA hb4 0 _ rfl
  have z1:=jA hb4 1 _ rfl
  have z2:=jA hb4 2 _ rfl
  have z3:=jA hb4 3 _ rfl
  have z4:=jA hb4 4 _ rfl
  have z5:=jA hb4 5 _ rfl
  have f0:=jB hb4 0
  have f1:=jB hb4 1
  have f2:=jB hb4 2
  have f3:=jB hb4 3
  have f4:=jB hb4 4
  have f5:=jB hb4 5
  have HFIN:Hid (QR w t (.returned (.tuple #[.agg #[.int .i64 0,.int .i64 0,.int .u64 0,.string ⟨#[]⟩,.slice none 0 0,.slice none 0 0],.int .i64 e])) (jH w4 (N+1) (.int .i64 0) (.int .i64 0) (.int .u64 0) (.string ⟨#[]⟩) (.slice none 0 0) (.slice none 0 0))):=by
   have hN:=HN.out
   have hT:=kC w4 (N+1) (.int .i64 0) (.int .i64 0) (.int .u64 0) (.string ⟨#[]⟩) (.slice none 0 0) (.slice none 0 0)
   exact⟨Moved.fresh HG4.out hT (fun g e=>by omega),.inl ⟨by rw[HE.out];exact H0.out,by rw[HE.out];rfl⟩⟩
  clear hb4 hg4
  go_wp2_with fail
  refine bodyPost_ret (v:=.tuple #[.agg #[.int .i64 0,.int .i64 0,.int .u64 0,.string ⟨#[]⟩,.slice none 0 0,.slice none 0 0],.int .i64 e]) (by simp[results,Try.results10,go_sem,z0,z1,z2,z3,z4,z5]) rfl ?_
  exact HFIN.out
 ·subst h0
  have HO:=zh (And.intro ho hf)
  obtain⟨k',n',u',s',a4',n4',c4',a5',n5',c5',rfl⟩:=ho.node6
  clear ho hf he hg3
  go_upto_region 4 with fail
  have hg4:=(jC.refl w3).alloc (.cells #[.int .i64 k',.int .i64 n',.int .u64 u',.string s',.slice a4' n4' c4',.slice a5' n5' c5'] 26)
  have hb4:=hg4.heap HB.out
  have hv4:=heap_alloc_new w3 (.cells #[.int .i64 k',.int .i64 n',.int .u64 u',.string s',.slice a4' n4' c4',.slice a5' n5' c5'] 26)
  have hs4:(w3.alloc (.cells #[.int .i64 k',.int .i64 n',.int .u64 u',.string s',.slice a4' n4' c4',.slice a5' n5' c5'] 26)).heap.size=w3.heap.size+1:=World.size_alloc _ _
  obtain⟨M,hM⟩:∃M,w3.heap.size=M:=⟨_,rfl⟩
  have HG4:=zh (HG.out.trans hg4)
  have HO4:Hid (jW (w3.alloc (.cells #[.int .i64 k',.int .i64 n',.int .u64 u',.string s',.slice a4' n4' c4',.slice a5' n5' c5'] 26)) w2.heap.size (kB t) (.agg #[.int .i64 k',.int .i64 n',.int .u64 u',.string s',.slice a4' n4' c4',.slice a5' n5' c5']) S∧∀g,S g→w2.heap.size≤g∧g < M):=⟨HO.out.1.grew hg4,fun g hg=>by have:=HO.out.2 g hg;rw[← hM];exact this⟩
  generalize (w3.alloc (.cells #[.int .i64 k',.int .i64 n',.int .u64 u',.string s',.slice a4' n4' c4',.slice a5' n5' c5'] 26))=w4 at *
  rw[hM] at hv4 hs4⊢
  have d0:=jA hv4 0 _ rfl
  have d1:=jA hv4 1 _ rfl
  have d2:=jA hv4 2 _ rfl
  have d3:=jA hv4 3 _ rfl
  have d4:=jA hv4 4 _ rfl
  have d5:=jA hv4 5 _ rfl
  have HH:=zh (And.intro hb4 (And.intro hv4 (And.intro hs4 (And.intro hM hsz2))))
  clear hb4 hv4 hs4 hM hg4 hsz2
  have HFEW:Hid (Few (kB t)):=VS _ _ 0 (Nat.le_refl _) (by have:=(check_val.1 HE.out);rw[(ZH t.size t 0 (Nat.le_refl _) this.2).2];exact this.1) (ZH t.size t 0 (Nat.le_refl _) (check_val.1 HE.out).2).1
  have H2N:Hid (N+1 < w2.heap.size∧w2.heap.size≤M∧w.heap.size≤w2.heap.size):=⟨H2.out.1,by rw[← HH.out.2.2.2.1];exact HG3.out.size,H2.out.2⟩
  go_region_with (first
   | (go_at_call 29;refine (aJ _).mono ?_;rintro r w5 ⟨bq,rfl,hbq,hmq,hgq⟩;replace hgq:=jC.trans (jC.refl w4).drew hgq;have e0:=hgq.cell d0;have e1:=hgq.cell d1;have e2:=hgq.cell d2;have e3:=hgq.cell d3;have e4:=hgq.cell d4;have e5:=hgq.cell d5)
   | (go_at_call 28;refine (of_any (kB t).size (kB t) (Nat.le_refl _) HFEW.out _ w5 w2.heap.size bq S (HO4.out.1.grew hgq) ?_ ?_ hmq ?_).mono ?_;exact Nat.le_trans H2N.out.2.1 (Nat.le_trans (by have:=HH.out.2.2.1;omega) hgq.size);exact fun g hg=>Nat.lt_of_lt_of_le (HO4.out.2 g hg).2 (Nat.le_trans (by have:=HH.out.2.2.1;omega) hgq.size);exact fun h=>absurd (HO4.out.2 bq h).2 (by have:=HH.out.2.2.1;have h6:w4.heap.size≤bq:=hbq;omega);rintro r w6 ⟨v6,S6,rfl,ho6,hm6,hz6,hf6⟩;obtain⟨rk,rn,ru,rs,ra4,rn4,rc4,ra5,rn5,rc5,rfl⟩:=ho6.node6;have hb6:=hm6.heap (hgq.heap HH.out.1) (fun h=>by have h7:=(HO4.out.2 _ h).1;have h8:=H2N.out.1;omega);have z0:=jA hb6 0 _ rfl;have z1:=jA hb6 1 _ rfl;have z2:=jA hb6 2 _ rfl;have z3:=jA hb6 3 _ rfl;have z4:=jA hb6 4 _ rfl;have z5:=jA hb6 5 _ rfl;have f0:=jB hb6 0;have f1:=jB hb6 1;have f2:=jB hb6 2;have f3:=jB hb6 3;have f4:=jB hb6 4;have f5:=jB hb6 5))
  all_goals
   have HFIN:Hid (QR w t (.returned (.tuple #[.agg #[.int .i64 rk,.int .i64 rn,.int .u64 ru,.string rs,.slice ra4 rn4 rc4,.slice ra5 rn5 rc5],.int .i64 0])) (jH w6 (N+1) (.int .i64 rk) (.int .i64 rn) (.int .u64 ru) (.string rs) (.slice ra4 rn4 rc4) (.slice ra5 rn5 rc5))):=by
    have hN:=HN.out
    obtain⟨q1,q2,q3⟩:=H2N.out
    obtain⟨_,_,hs4,_,_⟩:=HH.out
    have hg6:jC w w6:=Moved.fresh (HG4.out.trans hgq) hm6 (fun g hg=>by have:=(HO4.out.2 g hg).1;omega)
    have hsq:=hgq.size
    have hT:Moved (fun k=>k=N+1) w6 (jH w6 (N+1) (.int .i64 rk) (.int .i64 rn) (.int .u64 ru) (.string rs) (.slice ra4 rn4 rc4) (.slice ra5 rn5 rc5)):=kC w6 (N+1) _ _ _ _ _ _
    have hsz:=hT.size
    have hmz:=hm6.size
    refine⟨Moved.fresh hg6 hT (fun g e=>by omega),.inr ⟨HE.out,_,S6,rfl,(ho6.kept hT (fun g hg e=>?_)).base q3,fun g hg=>?_⟩⟩
    ·rcases hf6 g hg with h|h
     ·have:=(HO4.out.2 g h).1;omega
     ·have:=h.1;omega
    ·rcases hf6 g hg with h|h
     ·have:=HO4.out.2 g h;exact⟨by omega,by omega⟩
     ·exact⟨by have:=h.1;omega,by have:=h.2;omega⟩
  all_goals clear hgq hm6 hz6 hf6 ho6 hb6 hmq hbq e0 e1 e2 e3 e4 e5
  all_goals go_wp2_with fail
  all_goals refine bodyPost_ret (v:=.tuple #[.agg #[.int .i64 rk,.int .i64 rn,.int .u64 ru,.string rs,.slice ra4 rn4 rc4,.slice ra5 rn5 rc5],.int .i64 0]) (by simp[results,Try.results10,go_sem,z0,z1,z2,z3,z4,z5]) rfl ?_
  all_goals exact HFIN.out
theorem z8 (n:Int) (w:World):Calls Try.prog 22 #[.int .i64 n] w fun r w'=>r=.returned (.agg #[.int .i64 3,.int .i64 n,.int .u64 0,.string ⟨#[]⟩,.slice none 0 0,.slice none 0 0])∧jC w w':=by
 go_enter Try.func22,Try.ntmps22
 go_wp2_with fail
 have hb:=heap_alloc_new w (.cells #[.int .i64 3,.int .i64 n,.int .u64 0,.string ⟨#[]⟩,.slice none 0 0,.slice none 0 0] 26)
 have hg:=(jC.refl w).alloc (.cells #[.int .i64 3,.int .i64 n,.int .u64 0,.string ⟨#[]⟩,.slice none 0 0,.slice none 0 0] 26)
 have z0:=jA hb 0 _ rfl
 have z1:=jA hb 1 _ rfl
 have z2:=jA hb 2 _ rfl
 have z3:=jA hb 3 _ rfl
 have z4:=jA hb 4 _ rfl
 have z5:=jA hb 5 _ rfl
 refine bodyPost_ret (v:=.agg #[.int .i64 3,.int .i64 n,.int .u64 0,.string ⟨#[]⟩,.slice none 0 0,.slice none 0 0]) (by simp[results,Try.results22,go_sem,z0,z1,z2,z3,z4,z5]) rfl ?_
 exact⟨rfl,hg⟩
theorem y8 (n:Int) (w:World):Calls Try.prog 21 #[.int .u64 n] w fun r w'=>r=.returned (.agg #[.int .i64 4,.int .i64 0,.int .u64 n,.string ⟨#[]⟩,.slice none 0 0,.slice none 0 0])∧jC w w':=by
 go_enter Try.func21,Try.ntmps21
 go_wp2_with fail
 have hb:=heap_alloc_new w (.cells #[.int .i64 4,.int .i64 0,.int .u64 n,.string ⟨#[]⟩,.slice none 0 0,.slice none 0 0] 26)
 have hg:=(jC.refl w).alloc (.cells #[.int .i64 4,.int .i64 0,.int .u64 n,.string ⟨#[]⟩,.slice none 0 0,.slice none 0 0] 26)
 have z0:=jA hb 0 _ rfl
 have z1:=jA hb 1 _ rfl
 have z2:=jA hb 2 _ rfl
 have z3:=jA hb 3 _ rfl
 have z4:=jA hb 4 _ rfl
 have z5:=jA hb 5 _ rfl
 refine bodyPost_ret (v:=.agg #[.int .i64 4,.int .i64 0,.int .u64 n,.string ⟨#[]⟩,.slice none 0 0,.slice none 0 0]) (by simp[results,Try.results21,go_sem,z0,z1,z2,z3,z4,z5]) rfl ?_
 exact⟨rfl,hg⟩
theorem KB (s:ByteArray) (w:World):Calls Try.prog 34 #[.string s] w fun r w'=>r=.returned (.agg #[.int .i64 6,.int .i64 0,.int .u64 0,.string s,.slice none 0 0,.slice none 0 0])∧jC w w':=by
 go_enter Try.func34,Try.ntmps34
 go_wp2_with fail
 have hb:=heap_alloc_new w (.cells #[.int .i64 6,.int .i64 0,.int .u64 0,.string s,.slice none 0 0,.slice none 0 0] 26)
 have hg:=(jC.refl w).alloc (.cells #[.int .i64 6,.int .i64 0,.int .u64 0,.string s,.slice none 0 0,.slice none 0 0] 26)
 have z0:=jA hb 0 _ rfl
 have z1:=jA hb 1 _ rfl
 have z2:=jA hb 2 _ rfl
 have z3:=jA hb 3 _ rfl
 have z4:=jA hb 4 _ rfl
 have z5:=jA hb 5 _ rfl
 refine bodyPost_ret (v:=.agg #[.int .i64 6,.int .i64 0,.int .u64 0,.string s,.slice none 0 0,.slice none 0 0]) (by simp[results,Try.results34,go_sem,z0,z1,z2,z3,z4,z5]) rfl ?_
 exact⟨rfl,hg⟩
theorem yJ (k:Int) (a5:Option Addr) (n5 c5:Nat) (w:World):Calls Try.prog 23 #[.int .i64 k,.slice a5 n5 c5] w fun r w'=>r=.returned (.agg #[.int .i64 k,.int .i64 0,.int .u64 0,.string ⟨#[]⟩,.slice none 0 0,.slice a5 n5 c5])∧jC w w':=by
 go_enter Try.func23,Try.ntmps23
 go_wp2_with fail
 have hb:=heap_alloc_new w (.cells #[.int .i64 k,.int .i64 0,.int .u64 0,.string ⟨#[]⟩,.slice none 0 0,.slice a5 n5 c5] 26)
 have hg:=(jC.refl w).alloc (.cells #[.int .i64 k,.int .i64 0,.int .u64 0,.string ⟨#[]⟩,.slice none 0 0,.slice a5 n5 c5] 26)
 have z0:=jA hb 0 _ rfl
 have z1:=jA hb 1 _ rfl
 have z2:=jA hb 2 _ rfl
 have z3:=jA hb 3 _ rfl
 have z4:=jA hb 4 _ rfl
 have z5:=jA hb 5 _ rfl
 refine bodyPost_ret (v:=.agg #[.int .i64 k,.int .i64 0,.int .u64 0,.string ⟨#[]⟩,.slice none 0 0,.slice a5 n5 c5]) (by simp[results,Try.results23,go_sem,z0,z1,z2,z3,z4,z5]) rfl ?_
 exact⟨rfl,hg⟩
theorem VJ {w w':World} {t:Tr} {r:Ending} (h:QR w t r w'):jC w w'∧∃(e k n u:Int) (s:ByteArray) (a4:Option Addr) (n4 c4:Nat) (a5:Option Addr) (n5 c5:Nat),r=.returned (.tuple #[.agg #[.int .i64 k,.int .i64 n,.int .u64 u,.string s,.slice a4 n4 c4,.slice a5 n5 c5],.int .i64 e])∧e=kL t∧(e=0→jL w' (z6 t) (.agg #[.int .i64 k,.int .i64 n,.int .u64 u,.string s,.slice a4 n4 c4,.slice a5 n5 c5])):=by
 obtain⟨hg,⟨h0,rfl⟩|⟨h0,v,S,rfl,ho,hf⟩⟩:=h
 ·exact⟨hg,kL t,0,0,0,⟨#[]⟩,none,0,0,none,0,0,rfl,rfl,fun h=>absurd h h0⟩
 ·obtain⟨k,n,u,s,a4,n4,c4,a5,n5,c5,rfl⟩:=ho.node6
  exact⟨hg,0,k,n,u,s,a4,n4,c4,a5,n5,c5,rfl,h0.symm,fun _=>ho.node⟩
def qM (a b:Tr):Prop:=kL a=0∧kL b=0∧z6 a=z6 b
theorem qR (t1 t2:Tr) (v1 v2:Value) (w:World) (hn:jL w t1 v1) (hn2:jL w t2 v2) (hz1:t1.size≤1099511627776) (hz2:t2.size≤1099511627776):Calls Try.prog 15 #[v1,v2] w fun r w'=>∃b,r=.returned (.bool b)∧(b=true↔qM t1 t2)∧jC w w':=by
 have HC:=zh (And.intro hn hn2)
 obtain⟨ak,an,au,as_,aa4,an4,ac4,aa5,an5,ac5,rfl⟩:=hn.node6
 obtain⟨bk,bn,bu,bs,ba4,bn4,bc4,ba5,bn5,bc5,rfl⟩:=hn2.node6
 clear hn hn2
 go_enter Try.func15,Try.ntmps15
 go_wp2_with fail
 obtain⟨N,hN⟩:∃N,w.heap.size=N:=⟨_,rfl⟩
 have hb1:=heap_alloc_new w (.cells #[.int .i64 ak,.int .i64 an,.int .u64 au,.string as_,.slice aa4 an4 ac4,.slice aa5 an5 ac5] 26)
 have hgw1:=(jC.refl w).alloc (.cells #[.int .i64 ak,.int .i64 an,.int .u64 au,.string as_,.slice aa4 an4 ac4,.slice aa5 an5 ac5] 26)
 have hsw1:(w.alloc (.cells #[.int .i64 ak,.int .i64 an,.int .u64 au,.string as_,.slice aa4 an4 ac4,.slice aa5 an5 ac5] 26)).heap.size=w.heap.size+1:=World.size_alloc _ _
 generalize (w.alloc (.cells #[.int .i64 ak,.int .i64 an,.int .u64 au,.string as_,.slice aa4 an4 ac4,.slice aa5 an5 ac5] 26))=w1 at *
 have hb2:=heap_alloc_new w1 (.cells #[.int .i64 bk,.int .i64 bn,.int .u64 bu,.string bs,.slice ba4 bn4 bc4,.slice ba5 bn5 bc5] 26)
 have hgw2:=(jC.refl w1).alloc (.cells #[.int .i64 bk,.int .i64 bn,.int .u64 bu,.string bs,.slice ba4 bn4 bc4,.slice ba5 bn5 bc5] 26)
 have hsw2:(w1.alloc (.cells #[.int .i64 bk,.int .i64 bn,.int .u64 bu,.string bs,.slice ba4 bn4 bc4,.slice ba5 bn5 bc5] 26)).heap.size=w1.heap.size+1:=World.size_alloc _ _
 generalize (w1.alloc (.cells #[.int .i64 bk,.int .i64 bn,.int .u64 bu,.string bs,.slice ba4 bn4 bc4,.slice ba5 bn5 bc5] 26))=w2 at *
 rw[hsw1] at hb2
 skip
 replace hb1:=hgw2.heap hb1
 have HG:=zh (hgw1.trans hgw2)
 have HB1:=zh hb1
 have HB2:=zh hb2
 clear hb1 hb2 hgw1 hgw2 hsw1 hsw2 hN
 refine (ZR t1 _ w2 (HC.out.1.grew HG.out) hz1).mono ?_
 intro r w3 hh
 obtain⟨hg3,e1,xk,xn,xu,xs,xa4,xn4,xc4,xa5,xn5,xc5,rfl,he1,hx⟩:=VJ hh
 have HX:=zh (And.intro he1 hx)
 have HG3:=zh (HG.out.trans hg3)
 have HB3:=zh (hg3.heap HB2.out)
 clear hh hg3 he1 hx HG
 have d0:=jA HB3.out 0 _ rfl
 have d1:=jA HB3.out 1 _ rfl
 have d2:=jA HB3.out 2 _ rfl
 have d3:=jA HB3.out 3 _ rfl
 have d4:=jA HB3.out 4 _ rfl
 have d5:=jA HB3.out 5 _ rfl
 go_upto_region 2 with fail
 have hb4:=heap_alloc_new w3 (.cells #[.int .i64 xk,.int .i64 xn,.int .u64 xu,.string xs,.slice xa4 xn4 xc4,.slice xa5 xn5 xc5] 26)
 have hgw4:=(jC.refl w3).alloc (.cells #[.int .i64 xk,.int .i64 xn,.int .u64 xu,.string xs,.slice xa4 xn4 xc4,.slice xa5 xn5 xc5] 26)
 have hsw4:(w3.alloc (.cells #[.int .i64 xk,.int .i64 xn,.int .u64 xu,.string xs,.slice xa4 xn4 xc4,.slice xa5 xn5 xc5] 26)).heap.size=w3.heap.size+1:=World.size_alloc _ _
 generalize (w3.alloc (.cells #[.int .i64 xk,.int .i64 xn,.int .u64 xu,.string xs,.slice xa4 xn4 xc4,.slice xa5 xn5 xc5] 26))=w4 at *
 have HB4:=zh hb4
 have HG4:=zh hgw4
 have HB3':=zh (hgw4.heap HB3.out)
 clear hb4 hgw4 hsw4 d0 d1 d2 d3 d4 d5
 have d0:=jA HB3'.out 0 _ rfl
 have d1:=jA HB3'.out 1 _ rfl
 have d2:=jA HB3'.out 2 _ rfl
 have d3:=jA HB3'.out 3 _ rfl
 have d4:=jA HB3'.out 4 _ rfl
 have d5:=jA HB3'.out 5 _ rfl
 go_wp2_with fail
 refine (ZR t2 _ w4 (HC.out.2.grew (HG3.out.trans HG4.out)) hz2).mono ?_
 intro r w5 hh
 obtain⟨hg5,e2,yk,yn,yu,ys,ya4,yn4,yc4,ya5,yn5,yc5,rfl,he2,hy⟩:=VJ hh
 have HY:=zh (And.intro he2 hy)
 have HG5:=zh hg5
 have HB5:=zh (hg5.heap HB4.out)
 clear hh hg5 he2 hy d0 d1 d2 d3 d4 d5
 go_upto_region 3 with fail
 have hb6:=heap_alloc_new w5 (.cells #[.int .i64 yk,.int .i64 yn,.int .u64 yu,.string ys,.slice ya4 yn4 yc4,.slice ya5 yn5 yc5] 26)
 have hgw6:=(jC.refl w5).alloc (.cells #[.int .i64 yk,.int .i64 yn,.int .u64 yu,.string ys,.slice ya4 yn4 yc4,.slice ya5 yn5 yc5] 26)
 have hsw6:(w5.alloc (.cells #[.int .i64 yk,.int .i64 yn,.int .u64 yu,.string ys,.slice ya4 yn4 yc4,.slice ya5 yn5 yc5] 26)).heap.size=w5.heap.size+1:=World.size_alloc _ _
 generalize (w5.alloc (.cells #[.int .i64 yk,.int .i64 yn,.int .u64 yu,.string ys,.slice ya4 yn4 yc4,.slice ya5 yn5 yc5] 26))=w6 at *
 have HG6:=zh hgw6
 have HB6:=zh (hgw6.heap HB5.out)
 have f0:=jA hb6 0 _ rfl
 have f1:=jA hb6 1 _ rfl
 have f2:=jA hb6 2 _ rfl
 have f3:=jA hb6 3 _ rfl
 have f4:=jA hb6 4 _ rfl
 have f5:=jA hb6 5 _ rfl
 have d0:=jA HB6.out 0 _ rfl
 have d1:=jA HB6.out 1 _ rfl
 have d2:=jA HB6.out 2 _ rfl
 have d3:=jA HB6.out 3 _ rfl
 have d4:=jA HB6.out 4 _ rfl
 have d5:=jA HB6.out 5 _ rfl
 clear hb6 hgw6 hsw6
 have HGA:Hid (jC w w6):=((HG3.out.trans HG4.out).trans HG5.out).trans HG6.out
 by_cases h1:e1=0
 rotate_left
 ·have hb:(e1 == 0)=false:=by simpa using h1
  have H1:=zh h1
  clear h1
  go_wp2_with fail
  go_ret
  exact⟨false,rfl,⟨fun h=>absurd h (by decide),fun h=>absurd (HX.out.1.trans h.1) H1.out⟩,HGA.out⟩
 by_cases h2:e2=0
 rotate_left
 ·have hb:(e2 == 0)=false:=by simpa using h2
  have hb1:(e1 == 0)=true:=by simpa using h1
  have H2:=zh h2
  clear h1 h2
  go_wp2_with fail
  go_ret
  exact⟨false,rfl,⟨fun h=>absurd h (by decide),fun h=>absurd (HY.out.1.trans h.2.1) H2.out⟩,HGA.out⟩
 have HNX:=zh ((HX.out.2 h1).grew ((HG4.out.trans HG5.out).trans HG6.out))
 have HNY:=zh ((HY.out.2 h2).grew HG6.out)
 have HE:Hid (kL t1=0∧kL t2=0):=⟨by rw[← HX.out.1];exact h1,by rw[← HY.out.1];exact h2⟩
 subst h1
 subst h2
 go_wp2_with fail
 refine (aV _ _ (Nat.le_refl _) _ _ _ _ HNX.out HNY.out).mono ?_
 rintro r w7 ⟨bb,rfl,hbb,hg⟩
 have HF:=zh (And.intro hbb (HGA.out.trans hg))
 clear hbb hg
 go_wp2_with fail
 go_ret
 exact⟨bb,rfl,⟨fun h=>⟨HE.out.1,HE.out.2,HF.out.1.1 h⟩,fun h=>HF.out.1.2 h.2.2⟩,HF.out.2⟩
theorem JR (t1 t2:Tr) (v1 v2:Value) (w:World) (hn:jL w t1 v1) (hn2:jL w t2 v2) (hz1:t1.size≤1099511627776):Calls Try.prog 33 #[v1,v2] w fun r w'=>∃b,r=.returned (.bool b)∧(b=true↔kL t1=0∧z6 t1=t2)∧jC w w':=by
 have HC:=zh (And.intro hn hn2)
 obtain⟨ak,an,au,as_,aa4,an4,ac4,aa5,an5,ac5,rfl⟩:=hn.node6
 obtain⟨bk,bn,bu,bs,ba4,bn4,bc4,ba5,bn5,bc5,rfl⟩:=hn2.node6
 clear hn hn2
 go_enter Try.func33,Try.ntmps33
 go_wp2_with fail
 have hb1:=heap_alloc_new w (.cells #[.int .i64 ak,.int .i64 an,.int .u64 au,.string as_,.slice aa4 an4 ac4,.slice aa5 an5 ac5] 26)
 have hgw1:=(jC.refl w).alloc (.cells #[.int .i64 ak,.int .i64 an,.int .u64 au,.string as_,.slice aa4 an4 ac4,.slice aa5 an5 ac5] 26)
 have hsw1:(w.alloc (.cells #[.int .i64 ak,.int .i64 an,.int .u64 au,.string as_,.slice aa4 an4 ac4,.slice aa5 an5 ac5] 26)).heap.size=w.heap.size+1:=World.size_alloc _ _
 generalize (w.alloc (.cells #[.int .i64 ak,.int .i64 an,.int .u64 au,.string as_,.slice aa4 an4 ac4,.slice aa5 an5 ac5] 26))=w1 at *
 have hb2:=heap_alloc_new w1 (.cells #[.int .i64 bk,.int .i64 bn,.int .u64 bu,.string bs,.slice ba4 bn4 bc4,.slice ba5 bn5 bc5] 26)
 have hgw2:=(jC.refl w1).alloc (.cells #[.int .i64 bk,.int .i64 bn,.int .u64 bu,.string bs,.slice ba4 bn4 bc4,.slice ba5 bn5 bc5] 26)
 have hsw2:(w1.alloc (.cells #[.int .i64 bk,.int .i64 bn,.int .u64 bu,.string bs,.slice ba4 bn4 bc4,.slice ba5 bn5 bc5] 26)).heap.size=w1.heap.size+1:=World.size_alloc _ _
 generalize (w1.alloc (.cells #[.int .i64 bk,.int .i64 bn,.int .u64 bu,.string bs,.slice ba4 bn4 bc4,.slice ba5 bn5 bc5] 26))=w2 at *
 rw[hsw1] at hb2
 have HG:=zh (hgw1.trans hgw2)
 have HB2:=zh hb2
 clear hb1 hb2 hgw1 hgw2 hsw1 hsw2
 refine (ZR t1 _ w2 (HC.out.1.grew HG.out) hz1).mono ?_
 intro r w3 hh
 obtain⟨hg3,e1,xk,xn,xu,xs,xa4,xn4,xc4,xa5,xn5,xc5,rfl,he1,hx⟩:=VJ hh
 have HX:=zh (And.intro he1 hx)
 have HG3:=zh (HG.out.trans hg3)
 have HB3:=zh (hg3.heap HB2.out)
 have HC3:=zh (HC.out.2.grew HG3.out)
 clear hh hg3 he1 hx HG
 go_upto_region 2 with fail
 have hb4:=heap_alloc_new w3 (.cells #[.int .i64 xk,.int .i64 xn,.int .u64 xu,.string xs,.slice xa4 xn4 xc4,.slice xa5 xn5 xc5] 26)
 have hgw4:=(jC.refl w3).alloc (.cells #[.int .i64 xk,.int .i64 xn,.int .u64 xu,.string xs,.slice xa4 xn4 xc4,.slice xa5 xn5 xc5] 26)
 have hsw4:(w3.alloc (.cells #[.int .i64 xk,.int .i64 xn,.int .u64 xu,.string xs,.slice xa4 xn4 xc4,.slice xa5 xn5 xc5] 26)).heap.size=w3.heap.size+1:=World.size_alloc _ _
 generalize (w3.alloc (.cells #[.int .i64 xk,.int .i64 xn,.int .u64 xu,.string xs,.slice xa4 xn4 xc4,.slice xa5 xn5 xc5] 26))=w4 at *
 have HG4:=zh hgw4
 have HB4:=zh (hgw4.heap HB3.out)
 have f0:=jA hb4 0 _ rfl
 have f1:=jA hb4 1 _ rfl
 have f2:=jA hb4 2 _ rfl
 have f3:=jA hb4 3 _ rfl
 have f4:=jA hb4 4 _ rfl
 have f5:=jA hb4 5 _ rfl
 have d0:=jA HB4.out 0 _ rfl
 have d1:=jA HB4.out 1 _ rfl
 have d2:=jA HB4.out 2 _ rfl
 have d3:=jA HB4.out 3 _ rfl
 have d4:=jA HB4.out 4 _ rfl
 have d5:=jA HB4.out 5 _ rfl
 clear hb4 hgw4 hsw4
 have HGA:=zh (HG3.out.trans HG4.out)
 by_cases h1:e1=0
 rotate_left
 ·have hb:(e1 == 0)=false:=by simpa using h1
  have H1:=zh h1
  clear h1
  go_wp2_with fail
  go_ret
  exact⟨false,rfl,⟨fun h=>absurd h (by decide),fun h=>absurd (HX.out.1.trans h.1) H1.out⟩,HGA.out⟩
 have HNX:=zh ((HX.out.2 h1).grew HG4.out)
 have HE:Hid (kL t1=0):=by rw[← HX.out.1];exact h1
 subst h1
 go_wp2_with fail
 refine (yV _ _ (Nat.le_refl _) _ _ _ _ HNX.out (HC3.out.grew HG4.out)).mono ?_
 rintro r w7 ⟨bb,rfl,hbb,hg⟩
 have HF:=zh (And.intro hbb (HGA.out.trans hg))
 clear hbb hg
 go_wp2_with fail
 go_ret
 exact⟨bb,rfl,⟨fun h=>⟨HE.out,HF.out.1.1 h⟩,fun h=>HF.out.1.2 h.2⟩,HF.out.2⟩
theorem VU (l:List ByteArray) (h:(l.all fun s=>decide (s.size≤9223372036854775807))=true):∀s∈l,jI s.size:=by
 intro s hs
 simpa [jI] using List.all_eq_true.1 h s hs
theorem kG (k n u:Int) (s:ByteArray) (h:jQ k∧jQ n∧j9 u∧jI s.size) (w:World):Nd (.mk k n u s [] []) (.agg #[.int .i64 k,.int .i64 n,.int .u64 u,.string s,.slice none 0 0,.slice none 0 0]) w:=
 ⟨h,_,_,[],rfl,kO.nil w,yT.nil w,by simp[k4]⟩
theorem qK (k:Int) (hk:jQ k) {l:List Tr} {lv:Value} {w:World} (h2:Rn l lv w):Nd (.mk k 0 0 ⟨#[]⟩ [] l) (.agg #[.int .i64 k,.int .i64 0,.int .u64 0,.string ⟨#[]⟩,.slice none 0 0,lv]) w:=by
 obtain⟨vs,h3,h4⟩:=h2
 exact⟨⟨hk,by unfold jQ;omega,by unfold j9;omega,by unfold jI;decide⟩,_,lv,vs,rfl,kO.nil w,h3,h4⟩
def RnX (k:Nat) (ts:List Tr) (v:Value) (w:World):Prop:=(∃g,v=.slice (some ⟨g,0,none⟩) k k)∧Rn ts v w
theorem RnX.st (k:Nat) (ts:List Tr):∀v w w',jC w w'→RnX k ts v w→RnX k ts v w':=fun v w w' hg h=>⟨h.1,Rn.st _ v w w' hg h.2⟩
def SsX (k:Nat) (l:List ByteArray) (v:Value) (w:World):Prop:=(∃g,v=.slice (some ⟨g,0,none⟩) k k)∧Ss l v w
theorem SsX.st (k:Nat) (l:List ByteArray):∀v w w',jC w w'→SsX k l v w→SsX k l v w':=fun v w w' hg h=>⟨h.1,Ss.st _ v w w' hg h.2⟩
theorem w09_a:kL (.mk 4 0 5 ⟨#[]⟩ [] [])=0∧z6 (.mk 4 0 5 ⟨#[]⟩ [] [])=(.mk 3 5 0 ⟨#[]⟩ [] []):=⟨by decide +kernel,by kernel_rfl⟩
theorem w09_b:kL (.mk 4 0 9223372036854775808 ⟨#[]⟩ [] [])=0∧z6 (.mk 4 0 9223372036854775808 ⟨#[]⟩ [] [])=(.mk 4 0 9223372036854775808 ⟨#[]⟩ [] []):=⟨by decide +kernel,by kernel_rfl⟩
theorem w09_c:kL (.mk 5 0 0 ⟨#[97]⟩ [] [])=0∧z6 (.mk 5 0 0 ⟨#[97]⟩ [] [])=(.mk 6 0 0 ⟨#[97]⟩ [] []):=⟨by decide +kernel,by kernel_rfl⟩
theorem w09_d:kL (.mk 15 0 0 ⟨#[]⟩ [] [(.mk 3 1 0 ⟨#[]⟩ [] []),(.mk 3 2 0 ⟨#[]⟩ [] [])])=0∧z6 (.mk 15 0 0 ⟨#[]⟩ [] [(.mk 3 1 0 ⟨#[]⟩ [] []),(.mk 3 2 0 ⟨#[]⟩ [] [])])=(.mk 10 0 0 ⟨#[]⟩ [] [(.mk 3 1 0 ⟨#[]⟩ [] []),(.mk 3 2 0 ⟨#[]⟩ [] [])]):=⟨by decide +kernel,by kernel_rfl⟩
theorem w09_z:kL (.mk 0 0 0 ⟨#[]⟩ [] [])=60:=by decide +kernel
theorem w09_f:¬qM (.mk 3 1 0 ⟨#[]⟩ [] []) (.mk 6 0 0 ⟨#[49]⟩ [] []):=fun h=>absurd (show (z6 (.mk 3 1 0 ⟨#[]⟩ [] [])).kind=(z6 (.mk 6 0 0 ⟨#[49]⟩ [] [])).kind by rw[h.2.2]) (by decide +kernel)
theorem w09_g:¬qM (.mk 0 0 0 ⟨#[]⟩ [] []) (.mk 0 0 0 ⟨#[]⟩ [] []):=fun h=>absurd h.1 (by decide +kernel)
theorem w09_e:kL (.mk 17 0 0 ⟨#[]⟩ [⟨#[98]⟩,⟨#[97]⟩] [(.mk 4 0 1 ⟨#[]⟩ [] []),(.mk 5 0 0 ⟨#[120]⟩ [] [])])=0∧z6 (.mk 17 0 0 ⟨#[]⟩ [⟨#[98]⟩,⟨#[97]⟩] [(.mk 4 0 1 ⟨#[]⟩ [] []),(.mk 5 0 0 ⟨#[120]⟩ [] [])])=(.mk 17 0 0 ⟨#[]⟩ [⟨#[97]⟩,⟨#[98]⟩] [(.mk 6 0 0 ⟨#[120]⟩ [] []),(.mk 3 1 0 ⟨#[]⟩ [] [])]):=⟨by decide +kernel,by kernel_rfl⟩
theorem w09_h:qM (.mk 10 0 0 ⟨#[]⟩ [] [(.mk 4 0 1 ⟨#[]⟩ [] [])]) (.mk 11 0 0 ⟨#[]⟩ [] [(.mk 3 1 0 ⟨#[]⟩ [] [])]):=⟨by decide +kernel,by decide +kernel,by kernel_rfl⟩
theorem vG (w:World):Calls Try.prog 14 #[] w fun r w'=>r=.returned (.bool true)∧jC w w':=by
 go_enter Try.func14,Try.ntmps14
 have HG:=zh (jC.refl w)
 go_wp2_with fail
 refine (y8 5 w).mono ?_
 rintro r v1 ⟨rfl,hgc⟩
 replace HG:=zh (HG.out.trans hgc)
 clear hgc
 go_wp2_with fail
 refine (z8 5 v1).mono ?_
 rintro r v2 ⟨rfl,hgc⟩
 replace HG:=zh (HG.out.trans hgc)
 clear hgc
 go_wp2_with fail
 refine (JR (.mk 4 0 5 ⟨#[]⟩ [] []) (.mk 3 5 0 ⟨#[]⟩ [] []) _ _ v2 (kG 4 0 5 ⟨#[]⟩ (by unfold jQ j9 jI;decide) _) (kG 3 5 0 ⟨#[]⟩ (by unfold jQ j9 jI;decide) _) (by decide)).mono ?_
 rintro r v3 ⟨bq,rfl,hbq,hgc⟩
 replace HG:=zh (HG.out.trans hgc)
 clear hgc
 obtain rfl:bq=true:=hbq.2 w09_a
 clear hbq
 go_wp2_with fail
 refine (y8 9223372036854775808 v3).mono ?_
 rintro r v4 ⟨rfl,hgc⟩
 replace HG:=zh (HG.out.trans hgc)
 clear hgc
 go_wp2_with fail
 refine (y8 9223372036854775808 v4).mono ?_
 rintro r v5 ⟨rfl,hgc⟩
 replace HG:=zh (HG.out.trans hgc)
 clear hgc
 go_wp2_with fail
 refine (JR (.mk 4 0 9223372036854775808 ⟨#[]⟩ [] []) (.mk 4 0 9223372036854775808 ⟨#[]⟩ [] []) _ _ v5 (kG 4 0 9223372036854775808 ⟨#[]⟩ (by unfold jQ j9 jI;decide) _) (kG 4 0 9223372036854775808 ⟨#[]⟩ (by unfold jQ j9 jI;decide) _) (by decide)).mono ?_
 rintro r v6 ⟨bq,rfl,hbq,hgc⟩
 replace HG:=zh (HG.out.trans hgc)
 clear hgc
 obtain rfl:bq=true:=hbq.2 w09_b
 clear hbq
 go_wp2_with fail
 refine (KB ⟨#[97]⟩ v6).mono ?_
 rintro r v7 ⟨rfl,hgc⟩
 replace HG:=zh (HG.out.trans hgc)
 clear hgc
 go_wp2_with fail
 refine (JR (.mk 5 0 0 ⟨#[97]⟩ [] []) (.mk 6 0 0 ⟨#[97]⟩ [] []) _ _ v7 (kG 5 0 0 ⟨#[97]⟩ (by unfold jQ j9 jI;decide) _) (kG 6 0 0 ⟨#[97]⟩ (by unfold jQ j9 jI;decide) _) (by decide)).mono ?_
 rintro r v8 ⟨bq,rfl,hbq,hgc⟩
 replace HG:=zh (HG.out.trans hgc)
 clear hgc
 obtain rfl:bq=true:=hbq.2 w09_c
 clear hbq
 go_wp2_with fail
 refine (z8 1 v8).mono ?_
 rintro r v9 ⟨rfl,hgc⟩
 replace HG:=zh (HG.out.trans hgc)
 clear hgc
 go_wp2_with fail
 refine (z8 2 v9).mono ?_
 rintro r v10 ⟨rfl,hgc⟩
 replace HG:=zh (HG.out.trans hgc)
 clear hgc
 go_wp2_with fail
 obtain⟨g1,hs1⟩:∃g,v10.heap.size=g:=⟨_,rfl⟩
 have r1:Rn [(.mk 3 1 0 ⟨#[]⟩ [] []),(.mk 3 2 0 ⟨#[]⟩ [] [])] (.slice (some ⟨v10.heap.size,0,none⟩) 2 2) (v10.alloc (.cells #[.int .i64 3,.int .i64 1,.int .u64 0,.string ⟨#[]⟩,.slice none 0 0,.slice none 0 0,.int .i64 3,.int .i64 2,.int .u64 0,.string ⟨#[]⟩,.slice none 0 0,.slice none 0 0] 26)):=zC v10 [(.mk 3 1 0 ⟨#[]⟩ [] []),(.mk 3 2 0 ⟨#[]⟩ [] [])] [.agg #[.int .i64 3,.int .i64 1,.int .u64 0,.string ⟨#[]⟩,.slice none 0 0,.slice none 0 0],.agg #[.int .i64 3,.int .i64 2,.int .u64 0,.string ⟨#[]⟩,.slice none 0 0,.slice none 0 0]] (by intro x hx;simp only[List.mem_cons,List.not_mem_nil,or_false] at hx;rcases hx with rfl | rfl<;>exact⟨_,_,_,_,_,_,_,_,_,_,rfl⟩) ⟨_,_,rfl,(kG 3 1 0 ⟨#[]⟩ (by unfold jQ j9 jI;decide) _),⟨_,_,rfl,(kG 3 2 0 ⟨#[]⟩ (by unfold jQ j9 jI;decide) _),rfl⟩⟩ (by simp)
 have hg1:=(jC.refl v10).alloc (.cells #[.int .i64 3,.int .i64 1,.int .u64 0,.string ⟨#[]⟩,.slice none 0 0,.slice none 0 0,.int .i64 3,.int .i64 2,.int .u64 0,.string ⟨#[]⟩,.slice none 0 0,.slice none 0 0] 26)
 have hz1:(v10.alloc (.cells #[.int .i64 3,.int .i64 1,.int .u64 0,.string ⟨#[]⟩,.slice none 0 0,.slice none 0 0,.int .i64 3,.int .i64 2,.int .u64 0,.string ⟨#[]⟩,.slice none 0 0,.slice none 0 0] 26)).heap.size=v10.heap.size+1:=World.size_alloc _ _
 generalize (v10.alloc (.cells #[.int .i64 3,.int .i64 1,.int .u64 0,.string ⟨#[]⟩,.slice none 0 0,.slice none 0 0,.int .i64 3,.int .i64 2,.int .u64 0,.string ⟨#[]⟩,.slice none 0 0,.slice none 0 0] 26))=w1 at *
 rw[hs1] at r1 hz1
 try rw[hs1]
 replace HG:=zh (HG.out.trans hg1)
 clear hg1
 have n1:=qK 15 (by unfold jQ;decide) r1
 refine (yJ 15 _ _ _ w1).mono ?_
 rintro r v11 ⟨rfl,hgc⟩
 replace r1:=Rn.st _ _ _ _ hgc r1
 replace n1:=Nd.st _ _ _ _ hgc n1
 replace HG:=zh (HG.out.trans hgc)
 clear hgc
 go_wp2_with fail
 refine (z8 1 v11).mono ?_
 rintro r v12 ⟨rfl,hgc⟩
 replace r1:=Rn.st _ _ _ _ hgc r1
 replace n1:=Nd.st _ _ _ _ hgc n1
 replace HG:=zh (HG.out.trans hgc)
 clear hgc
 go_wp2_with fail
 refine (z8 2 v12).mono ?_
 rintro r v13 ⟨rfl,hgc⟩
 replace r1:=Rn.st _ _ _ _ hgc r1
 replace n1:=Nd.st _ _ _ _ hgc n1
 replace HG:=zh (HG.out.trans hgc)
 clear hgc
 go_wp2_with fail
 obtain⟨g2,hs2⟩:∃g,v13.heap.size=g:=⟨_,rfl⟩
 have r2:Rn [(.mk 3 1 0 ⟨#[]⟩ [] []),(.mk 3 2 0 ⟨#[]⟩ [] [])] (.slice (some ⟨v13.heap.size,0,none⟩) 2 2) (v13.alloc (.cells #[.int .i64 3,.int .i64 1,.int .u64 0,.string ⟨#[]⟩,.slice none 0 0,.slice none 0 0,.int .i64 3,.int .i64 2,.int .u64 0,.string ⟨#[]⟩,.slice none 0 0,.slice none 0 0] 26)):=zC v13 [(.mk 3 1 0 ⟨#[]⟩ [] []),(.mk 3 2 0 ⟨#[]⟩ [] [])] [.agg #[.int .i64 3,.int .i64 1,.int .u64 0,.string ⟨#[]⟩,.slice none 0 0,.slice none 0 0],.agg #[.int .i64 3,.int .i64 2,.int .u64 0,.string ⟨#[]⟩,.slice none 0 0,.slice none 0 0]] (by intro x hx;simp only[List.mem_cons,List.not_mem_nil,or_false] at hx;rcases hx with rfl | rfl<;>exact⟨_,_,_,_,_,_,_,_,_,_,rfl⟩) ⟨_,_,rfl,(kG 3 1 0 ⟨#[]⟩ (by unfold jQ j9 jI;decide) _),⟨_,_,rfl,(kG 3 2 0 ⟨#[]⟩ (by unfold jQ j9 jI;decide) _),rfl⟩⟩ (by simp)
 have hg2:=(jC.refl v13).alloc (.cells #[.int .i64 3,.int .i64 1,.int .u64 0,.string ⟨#[]⟩,.slice none 0 0,.slice none 0 0,.int .i64 3,.int .i64 2,.int .u64 0,.string ⟨#[]⟩,.slice none 0 0,.slice none 0 0] 26)
 have hz2:(v13.alloc (.cells #[.int .i64 3,.int .i64 1,.int .u64 0,.string ⟨#[]⟩,.slice none 0 0,.slice none 0 0,.int .i64 3,.int .i64 2,.int .u64 0,.string ⟨#[]⟩,.slice none 0 0,.slice none 0 0] 26)).heap.size=v13.heap.size+1:=World.size_alloc _ _
 generalize (v13.alloc (.cells #[.int .i64 3,.int .i64 1,.int .u64 0,.string ⟨#[]⟩,.slice none 0 0,.slice none 0 0,.int .i64 3,.int .i64 2,.int .u64 0,.string ⟨#[]⟩,.slice none 0 0,.slice none 0 0] 26))=w2 at *
 rw[hs2] at r2 hz2
 try rw[hs2]
 replace r1:=Rn.st _ _ _ _ hg2 r1
 replace n1:=Nd.st _ _ _ _ hg2 n1
 replace HG:=zh (HG.out.trans hg2)
 clear hg2
 have n2:=qK 10 (by unfold jQ;decide) r2
 refine (yJ 10 _ _ _ w2).mono ?_
 rintro r v14 ⟨rfl,hgc⟩
 replace r1:=Rn.st _ _ _ _ hgc r1
 replace n1:=Nd.st _ _ _ _ hgc n1
 replace r2:=Rn.st _ _ _ _ hgc r2
 replace n2:=Nd.st _ _ _ _ hgc n2
 replace HG:=zh (HG.out.trans hgc)
 clear hgc
 go_wp2_with fail
 refine (JR (.mk 15 0 0 ⟨#[]⟩ [] [(.mk 3 1 0 ⟨#[]⟩ [] []),(.mk 3 2 0 ⟨#[]⟩ [] [])]) (.mk 10 0 0 ⟨#[]⟩ [] [(.mk 3 1 0 ⟨#[]⟩ [] []),(.mk 3 2 0 ⟨#[]⟩ [] [])]) _ _ v14 n1 n2 (by decide)).mono ?_
 rintro r v15 ⟨bq,rfl,hbq,hgc⟩
 replace r1:=Rn.st _ _ _ _ hgc r1
 replace n1:=Nd.st _ _ _ _ hgc n1
 replace r2:=Rn.st _ _ _ _ hgc r2
 replace n2:=Nd.st _ _ _ _ hgc n2
 replace HG:=zh (HG.out.trans hgc)
 clear hgc
 obtain rfl:bq=true:=hbq.2 w09_d
 clear hbq
 go_wp2_with fail
 clear r1 r2 n1 n2
 obtain⟨g3,hs3⟩:∃g,v15.heap.size=g:=⟨_,rfl⟩
 have s3:Ss [⟨#[98]⟩,⟨#[97]⟩] (.slice (some ⟨v15.heap.size,0,none⟩) 2 2) (v15.alloc (.cells #[.string ⟨#[98]⟩,.string ⟨#[97]⟩] 9)):=ZG v15 [⟨#[98]⟩,⟨#[97]⟩] (VU _ (by decide)) (by decide)
 have hg3:=(jC.refl v15).alloc (.cells #[.string ⟨#[98]⟩,.string ⟨#[97]⟩] 9)
 have hz3:(v15.alloc (.cells #[.string ⟨#[98]⟩,.string ⟨#[97]⟩] 9)).heap.size=v15.heap.size+1:=World.size_alloc _ _
 generalize (v15.alloc (.cells #[.string ⟨#[98]⟩,.string ⟨#[97]⟩] 9))=w3 at *
 rw[hs3] at s3 hz3
 try rw[hs3]
 replace HG:=zh (HG.out.trans hg3)
 clear hg3
 refine (y8 1 w3).mono ?_
 rintro r v16 ⟨rfl,hgc⟩
 replace s3:=Ss.st _ _ _ _ hgc s3
 replace HG:=zh (HG.out.trans hgc)
 clear hgc
 go_wp2_with fail
 obtain⟨g4,hs4⟩:∃g,v16.heap.size=g:=⟨_,rfl⟩
 have r3:Rn [(.mk 4 0 1 ⟨#[]⟩ [] []),(.mk 5 0 0 ⟨#[120]⟩ [] [])] (.slice (some ⟨v16.heap.size,0,none⟩) 2 2) (v16.alloc (.cells #[.int .i64 4,.int .i64 0,.int .u64 1,.string ⟨#[]⟩,.slice none 0 0,.slice none 0 0,.int .i64 5,.int .i64 0,.int .u64 0,.string ⟨#[120]⟩,.slice none 0 0,.slice none 0 0] 26)):=zC v16 [(.mk 4 0 1 ⟨#[]⟩ [] []),(.mk 5 0 0 ⟨#[120]⟩ [] [])] [.agg #[.int .i64 4,.int .i64 0,.int .u64 1,.string ⟨#[]⟩,.slice none 0 0,.slice none 0 0],.agg #[.int .i64 5,.int .i64 0,.int .u64 0,.string ⟨#[120]⟩,.slice none 0 0,.slice none 0 0]] (by intro x hx;simp only[List.mem_cons,List.not_mem_nil,or_false] at hx;rcases hx with rfl | rfl<;>exact⟨_,_,_,_,_,_,_,_,_,_,rfl⟩) ⟨_,_,rfl,(kG 4 0 1 ⟨#[]⟩ (by unfold jQ j9 jI;decide) _),⟨_,_,rfl,(kG 5 0 0 ⟨#[120]⟩ (by unfold jQ j9 jI;decide) _),rfl⟩⟩ (by simp)
 have hg4:=(jC.refl v16).alloc (.cells #[.int .i64 4,.int .i64 0,.int .u64 1,.string ⟨#[]⟩,.slice none 0 0,.slice none 0 0,.int .i64 5,.int .i64 0,.int .u64 0,.string ⟨#[120]⟩,.slice none 0 0,.slice none 0 0] 26)
 have hz4:(v16.alloc (.cells #[.int .i64 4,.int .i64 0,.int .u64 1,.string ⟨#[]⟩,.slice none 0 0,.slice none 0 0,.int .i64 5,.int .i64 0,.int .u64 0,.string ⟨#[120]⟩,.slice none 0 0,.slice none 0 0] 26)).heap.size=v16.heap.size+1:=World.size_alloc _ _
 generalize (v16.alloc (.cells #[.int .i64 4,.int .i64 0,.int .u64 1,.string ⟨#[]⟩,.slice none 0 0,.slice none 0 0,.int .i64 5,.int .i64 0,.int .u64 0,.string ⟨#[120]⟩,.slice none 0 0,.slice none 0 0] 26))=w4 at *
 rw[hs4] at r3 hz4
 try rw[hs4]
 replace s3:=Ss.st _ _ _ _ hg4 s3
 replace HG:=zh (HG.out.trans hg4)
 clear hg4
 have nin:=QJ s3 r3
 have hs5:=hz4
 have hvt:=heap_alloc_new w4 (.cells #[.int .i64 17,.int .i64 0,.int .u64 0,.string ⟨#[]⟩,.slice (some ⟨g3,0,none⟩) 2 2,.slice (some ⟨g4,0,none⟩) 2 2] 26)
 have hg5:=(jC.refl w4).alloc (.cells #[.int .i64 17,.int .i64 0,.int .u64 0,.string ⟨#[]⟩,.slice (some ⟨g3,0,none⟩) 2 2,.slice (some ⟨g4,0,none⟩) 2 2] 26)
 have hz5:(w4.alloc (.cells #[.int .i64 17,.int .i64 0,.int .u64 0,.string ⟨#[]⟩,.slice (some ⟨g3,0,none⟩) 2 2,.slice (some ⟨g4,0,none⟩) 2 2] 26)).heap.size=w4.heap.size+1:=World.size_alloc _ _
 generalize (w4.alloc (.cells #[.int .i64 17,.int .i64 0,.int .u64 0,.string ⟨#[]⟩,.slice (some ⟨g3,0,none⟩) 2 2,.slice (some ⟨g4,0,none⟩) 2 2] 26))=w5 at *
 rw[hs5] at hvt hz5
 try rw[hs5]
 replace s3:=Ss.st _ _ _ _ hg5 s3
 replace r3:=Rn.st _ _ _ _ hg5 r3
 replace nin:=Nd.st _ _ _ _ hg5 nin
 replace HG:=zh (HG.out.trans hg5)
 clear hg5
 clear s3 r3
 refine (ZR (.mk 0 0 0 ⟨#[]⟩ [] []) _ w5 (kG 0 0 0 ⟨#[]⟩ (by unfold jQ j9 jI;decide) _) (by decide)).mono ?_
 intro r v17 hs
 obtain⟨hgc,rfl⟩:jC w5 v17∧r=.returned (.tuple #[j7,.int .i64 60]):=by
  rcases hs.2 with ⟨_,e⟩|⟨e,_⟩
  ·exact⟨hs.1,by rw[e,w09_z]⟩
  ·rw[w09_z] at e;cases e
 clear hs
 replace nin:=Nd.st _ _ _ _ hgc nin
 replace hvt:=hgc.heap hvt
 replace HG:=zh (HG.out.trans hgc)
 clear hgc
 rw[show j7=.agg #[.int .i64 0,.int .i64 0,.int .u64 0,.string ⟨#[]⟩,.slice none 0 0,.slice none 0 0] from rfl]
 go_upto_region 5 with fail
 obtain⟨g6,hs6⟩:∃g,v17.heap.size=g:=⟨_,rfl⟩
 have hvz:=heap_alloc_new v17 (.cells #[.int .i64 0,.int .i64 0,.int .u64 0,.string ⟨#[]⟩,.slice none 0 0,.slice none 0 0] 26)
 have hg6:=(jC.refl v17).alloc (.cells #[.int .i64 0,.int .i64 0,.int .u64 0,.string ⟨#[]⟩,.slice none 0 0,.slice none 0 0] 26)
 have hz6:(v17.alloc (.cells #[.int .i64 0,.int .i64 0,.int .u64 0,.string ⟨#[]⟩,.slice none 0 0,.slice none 0 0] 26)).heap.size=v17.heap.size+1:=World.size_alloc _ _
 generalize (v17.alloc (.cells #[.int .i64 0,.int .i64 0,.int .u64 0,.string ⟨#[]⟩,.slice none 0 0,.slice none 0 0] 26))=w6 at *
 rw[hs6] at hvz hz6
 try rw[hs6]
 replace nin:=Nd.st _ _ _ _ hg6 nin
 replace hvt:=hg6.heap hvt
 replace HG:=zh (HG.out.trans hg6)
 clear hg6
 clear hvz
 have a0:=jA hvt 0 _ rfl
 have a1:=jA hvt 1 _ rfl
 have a2:=jA hvt 2 _ rfl
 have a3:=jA hvt 3 _ rfl
 have a4:=jA hvt 4 _ rfl
 have a5:=jA hvt 5 _ rfl
 clear hvt
 refine kN jC [[],[],[],[2],[2,3],[1,2,3,4],[0,1,2,3,4,5],[0,1,2,3,4,5,6],[0,1,2,3,4,5,6,7],[0,1,2,3,4,5,6,7,8],[0,1,2,3,4,5,6,7,8,9],[0,1,2,3,4,5,6,7,8,9,10],[0,1,2,3,4,5,6,7,8,9,10,11],[0,1,2,3,4,5,6,7,8,9,10,11,12],[0,1,2,3,4,5,6,7,8,9,10,11,12,13],[0,1,2,3,4,5,6,7,8,9,10,11,12,13,14],[0,1,2,3,4,5,6,7,8,9,10,11,12,13,14,15],[0,1,2,3,4,5,6,7,8,9,10,11,12,13,14,15,16],[0,1,2,3,4,5,6,7,8,9,10,11,12,13,14,15,16,17],[0,1,2,3,4,5,6,7,8,9,10,11,12,13,14,15,16,17,18],[0,1,2,3,4,5,6,7,8,9,10,11,12,13,14,15,16,17,18,19],[0,1,2,3,4,5,6,7,8,9,10,11,12,13,14,15,16,17,18,19,20],[0,1,2,3,4,5,6,7,8,9,10,11,12,13,14,15,16,17,18,19,20,21],[0,1,2,3,4,5,6,7,8,9,10,11,12,13,14,15,16,17,18,19,20,21,22],[0,1,2,3,4,5,6,7,8,9,10,11,12,13,14,15,16,17,18,19,20,21,22,23],[0,1,2,3,4,5,6,7,8,9,10,11,12,13,14,15,16,17,18,19,20,21,22,23,24],[0,1,2,3,4,5,6,7,8,9,10,11,12,13,14,15,16,17,18,19,20,21,22,23,24,25],[0,1,2,3,4,5,6,7,8,9,10,11,12,13,14,15,16,17,18,19,20,21,22,23,24,25,26],[0,1,2,3,4,5,6,7,8,9,10,11,12,13,14,15,16,17,18,19,20,21,22,23,24,25,26],[0,1,2,3,4,5,6,7,8,9,10,11,12,13,14,15,16,17,18,19,20,21,22,23,24,25,26,27,28],[0,1,2,3,4,5,6,7,8,9,10,11,12,13,14,15,16,17,18,19,20,21,22,23,24,25,26,27,28,29],[0,1,2,3,4,5,6,7,8,9,10,11,12,13,14,15,16,17,18,19,20,21,22,23,24,25,26,27,28,29,30],[0,1,2,3,4,5,6,7,8,9,10,11,12,13,14,15,16,17,18,19,20,21,22,23,24,25,26,27,28,29,30,31]] [[(43,1),(44,2),(45,3),(46,4),(47,5)],[(42,0),(44,2),(45,3),(46,4)],[(42,0),(43,1)],[(42,0),(43,1),(44,2)],[(42,0),(43,1),(44,2),(45,3)],[(42,0),(43,1),(44,2),(45,3),(46,4)],[(42,0),(43,1),(44,2),(45,3),(46,4),(47,5)],[(42,0),(43,1),(44,2),(45,3),(46,4),(47,5),(48,6)],[(42,0),(43,1),(44,2),(45,3),(46,4),(47,5),(48,6),(49,7)],[(42,0),(43,1),(44,2),(45,3),(46,4),(47,5),(48,6),(49,7),(50,8)],[(42,0),(43,1),(44,2),(45,3),(46,4),(47,5),(48,6),(49,7),(50,8),(51,9)],[(42,0),(43,1),(44,2),(45,3),(46,4),(47,5),(48,6),(49,7),(50,8),(51,9),(52,10)],[(42,0),(43,1),(44,2),(45,3),(46,4),(47,5),(48,6),(49,7),(50,8),(51,9),(52,10),(53,11)],[(42,0),(43,1),(44,2),(45,3),(46,4),(47,5),(48,6),(49,7),(50,8),(51,9),(52,10),(53,11),(54,12)],[(42,0),(43,1),(44,2),(45,3),(46,4),(47,5),(48,6),(49,7),(50,8),(51,9),(52,10),(53,11),(54,12),(55,13)],[(42,0),(43,1),(44,2),(45,3),(46,4),(47,5),(48,6),(49,7),(50,8),(51,9),(52,10),(53,11),(54,12),(55,13),(56,14)],[(42,0),(43,1),(44,2),(45,3),(46,4),(47,5),(48,6),(49,7),(50,8),(51,9),(52,10),(53,11),(54,12),(55,13),(56,14),(57,15)],[(42,0),(43,1),(44,2),(45,3),(46,4),(47,5),(48,6),(49,7),(50,8),(51,9),(52,10),(53,11),(54,12),(55,13),(56,14),(57,15),(58,16)],[(42,0),(43,1),(44,2),(45,3),(46,4),(47,5),(48,6),(49,7),(50,8),(51,9),(52,10),(53,11),(54,12),(55,13),(56,14),(57,15),(58,16),(59,17)],[(42,0),(43,1),(44,2),(45,3),(46,4),(47,5),(48,6),(49,7),(50,8),(51,9),(52,10),(53,11),(54,12),(55,13),(56,14),(57,15),(58,16),(59,17),(60,18)],[(42,0),(43,1),(44,2),(45,3),(46,4),(47,5),(48,6),(49,7),(50,8),(51,9),(52,10),(53,11),(54,12),(55,13),(56,14),(57,15),(58,16),(59,17),(60,18),(61,19)],[(42,0),(43,1),(44,2),(45,3),(46,4),(47,5),(48,6),(49,7),(50,8),(51,9),(52,10),(53,11),(54,12),(55,13),(56,14),(57,15),(58,16),(59,17),(60,18),(61,19),(62,20)],[(42,0),(43,1),(44,2),(45,3),(46,4),(47,5),(48,6),(49,7),(50,8),(51,9),(52,10),(53,11),(54,12),(55,13),(56,14),(57,15),(58,16),(59,17),(60,18),(61,19),(62,20),(63,21)],[(42,0),(43,1),(44,2),(45,3),(46,4),(47,5),(48,6),(49,7),(50,8),(51,9),(52,10),(53,11),(54,12),(55,13),(56,14),(57,15),(58,16),(59,17),(60,18),(61,19),(62,20),(63,21),(64,22)],[(42,0),(43,1),(44,2),(45,3),(46,4),(47,5),(48,6),(49,7),(50,8),(51,9),(52,10),(53,11),(54,12),(55,13),(56,14),(57,15),(58,16),(59,17),(60,18),(61,19),(62,20),(63,21),(64,22),(65,23)],[(42,0),(43,1),(44,2),(45,3),(46,4),(47,5),(48,6),(49,7),(50,8),(51,9),(52,10),(53,11),(54,12),(55,13),(56,14),(57,15),(58,16),(59,17),(60,18),(61,19),(62,20),(63,21),(64,22),(65,23),(66,24)],[(42,0),(43,1),(44,2),(45,3),(46,4),(47,5),(48,6),(49,7),(50,8),(51,9),(52,10),(53,11),(54,12),(55,13),(56,14),(57,15),(58,16),(59,17),(60,18),(61,19),(62,20),(63,21),(64,22),(65,23),(66,24),(67,25)],[(42,0),(43,1),(44,2),(45,3),(46,4),(47,5),(48,6),(49,7),(50,8),(51,9),(52,10),(53,11),(54,12),(55,13),(56,14),(57,15),(58,16),(59,17),(60,18),(61,19),(62,20),(63,21),(64,22),(65,23),(66,24),(67,25),(68,26),(70,28)],[(42,0),(43,1),(44,2),(45,3),(46,4),(47,5),(48,6),(49,7),(50,8),(51,9),(52,10),(53,11),(54,12),(55,13),(56,14),(57,15),(58,16),(59,17),(60,18),(61,19),(62,20),(63,21),(64,22),(65,23),(66,24),(67,25),(68,26),(69,27)],[(42,0),(43,1),(44,2),(45,3),(46,4),(47,5),(48,6),(49,7),(50,8),(51,9),(52,10),(53,11),(54,12),(55,13),(56,14),(57,15),(58,16),(59,17),(60,18),(61,19),(62,20),(63,21),(64,22),(65,23),(66,24),(67,25),(68,26),(69,27),(70,28)],[(42,0),(43,1),(44,2),(45,3),(46,4),(47,5),(48,6),(49,7),(50,8),(51,9),(52,10),(53,11),(54,12),(55,13),(56,14),(57,15),(58,16),(59,17),(60,18),(61,19),(62,20),(63,21),(64,22),(65,23),(66,24),(67,25),(68,26),(69,27),(70,28),(71,29)],[(42,0),(43,1),(44,2),(45,3),(46,4),(47,5),(48,6),(49,7),(50,8),(51,9),(52,10),(53,11),(54,12),(55,13),(56,14),(57,15),(58,16),(59,17),(60,18),(61,19),(62,20),(63,21),(64,22),(65,23),(66,24),(67,25),(68,26),(69,27),(70,28),(71,29),(72,30)],[(42,0),(43,1),(44,2),(45,3),(46,4),(47,5),(48,6),(49,7),(50,8),(51,9),(52,10),(53,11),(54,12),(55,13),(56,14),(57,15),(58,16),(59,17),(60,18),(61,19),(62,20),(63,21),(64,22),(65,23),(66,24),(67,25),(68,26),(69,27),(70,28),(71,29),(72,30),(73,31)]] [(42,0),(43,1),(44,2),(45,3),(46,4),(47,5),(48,6),(49,7),(50,8),(51,9),(52,10),(53,11),(54,12),(55,13),(56,14),(57,15),(58,16),(59,17),(60,18),(61,19),(62,20),(63,21),(64,22),(65,23),(66,24),(67,25),(68,26),(69,27),(70,28),(71,29),(72,30),(73,31),(0,32)]
  [Is (.agg #[.int .i64 17,.int .i64 0,.int .u64 0,.string ⟨#[]⟩,.slice (some ⟨g3,0,none⟩) 2 2,.slice (some ⟨g4,0,none⟩) 2 2]),SsX 2 [⟨#[97]⟩,⟨#[98]⟩],Is (.agg #[.int .i64 6,.int .i64 0,.int .u64 0,.string ⟨#[120]⟩,.slice none 0 0,.slice none 0 0]),Is (.agg #[.int .i64 3,.int .i64 1,.int .u64 0,.string ⟨#[]⟩,.slice none 0 0,.slice none 0 0]),RnX 2 [(.mk 6 0 0 ⟨#[120]⟩ [] []),(.mk 3 1 0 ⟨#[]⟩ [] [])],Nd (.mk 17 0 0 ⟨#[]⟩ [⟨#[97]⟩,⟨#[98]⟩] [(.mk 6 0 0 ⟨#[120]⟩ [] []),(.mk 3 1 0 ⟨#[]⟩ [] [])]),Is (.bool true),Is (.bool true),Is (.int .i64 60),Is (.bool true),Is (.bool true),Is (.bool true),Is (.agg #[.int .i64 4,.int .i64 0,.int .u64 1,.string ⟨#[]⟩,.slice none 0 0,.slice none 0 0]),RnX 1 [(.mk 4 0 1 ⟨#[]⟩ [] [])],Nd (.mk 10 0 0 ⟨#[]⟩ [] [(.mk 4 0 1 ⟨#[]⟩ [] [])]),Is (.agg #[.int .i64 3,.int .i64 1,.int .u64 0,.string ⟨#[]⟩,.slice none 0 0,.slice none 0 0]),RnX 1 [(.mk 3 1 0 ⟨#[]⟩ [] [])],Nd (.mk 11 0 0 ⟨#[]⟩ [] [(.mk 3 1 0 ⟨#[]⟩ [] [])]),Is (.bool true),Is (.bool true),Is (.bool true),Is (.agg #[.int .i64 3,.int .i64 1,.int .u64 0,.string ⟨#[]⟩,.slice none 0 0,.slice none 0 0]),Is (.agg #[.int .i64 6,.int .i64 0,.int .u64 0,.string ⟨#[49]⟩,.slice none 0 0,.slice none 0 0]),Is (.bool false),Is (.bool true),Is (.bool true),Is (.bool true),Is (.agg #[.int .i64 0,.int .i64 0,.int .u64 0,.string ⟨#[]⟩,.slice none 0 0,.slice none 0 0]),Is (.agg #[.int .i64 0,.int .i64 0,.int .u64 0,.string ⟨#[]⟩,.slice none 0 0,.slice none 0 0]),Is (.bool false),Is (.bool true),Is (.bool true),Is (.bool true)]
  zk jC.trans jC.refl (jC.refl _).drew zk ⟨jG,SsX.st _ _,jG,jG,RnX.st _ _,Nd.st _,jG,jG,jG,jG,jG,jG,jG,RnX.st _ _,Nd.st _,jG,RnX.st _ _,Nd.st _,jG,jG,jG,jG,jG,jG,jG,jG,jG,jG,jG,jG,jG,jG,jG,trivial⟩ ?_ rfl ?_
 rotate_left
 ·intro y w2 hG hF
  simp only[zH,Is,and_true,Nat.reduceAdd] at hF
  have hlast:=hF.2.2.2.2.2.2.2.2.2.2.2.2.2.2.2.2.2.2.2.2.2.2.2.2.2.2.2.2.2.2.2.2
  clear hF
  simp only[jD,Act.put,zq1,zq2,zq3,zq4,zq5,hlast]
  replace HG:=zh (HG.out.trans hG)
  clear hG hlast
  go_wp2_with fail
  go_ret
  exact⟨rfl,HG.out⟩
 refine⟨?_,?_⟩
 ·intro y w2 hG hD K hK
  have da0:=hG.cell a0
  have da1:=hG.cell a1
  have da2:=hG.cell a2
  have da3:=hG.cell a3
  have da4:=hG.cell a4
  have da5:=hG.cell a5
  exact zsr
 refine⟨?_,?_⟩
 ·intro y w2 hG hD K hK
  simp only[jD,Act.put,zq1,zq2,zq3,zq4,zq5,Is] at hK⊢
  refine jF ?_
  go_simp
  have hbb:=ZG w2 [⟨#[97]⟩,⟨#[98]⟩] (VU _ (by decide)) (by decide)
  exact hK _ _ _ rfl ((jC.refl _).alloc _) ⟨⟨_,rfl⟩,hbb⟩
 refine⟨?_,?_⟩
 ·intro y w2 hG hD K hK
  simp only[jD,Act.put,zq1,zq2,zq3,zq4,zq5,Is] at hK⊢
  refine jF ?_
  go_simp
  refine (KB ⟨#[120]⟩ _).mono ?_
  rintro r w3 ⟨rfl,hg3⟩
  exact hK _ _ _ rfl hg3 rfl
 refine⟨?_,?_⟩
 ·intro y w2 hG hD K hK
  simp only[jM,zq4,zq5,Is,and_true] at hD
  simp only[jD,Act.put,zq1,zq2,zq3,zq4,zq5,Is] at hK⊢
  simp only[hD] at hK⊢
  clear hD
  refine jF ?_
  go_simp
  refine (z8 1 _).mono ?_
  rintro r w3 ⟨rfl,hg3⟩
  exact hK _ _ _ rfl hg3 rfl
 refine⟨?_,?_⟩
 ·intro y w2 hG hD K hK
  simp only[jM,zq4,zq5,Is,and_true] at hD
  simp only[jD,Act.put,zq1,zq2,zq3,zq4,zq5,Is] at hK⊢
  simp only[hD] at hK⊢
  clear hD
  refine jF ?_
  go_simp
  have hbb:=zC w2 [(.mk 6 0 0 ⟨#[120]⟩ [] []),(.mk 3 1 0 ⟨#[]⟩ [] [])] [.agg #[.int .i64 6,.int .i64 0,.int .u64 0,.string ⟨#[120]⟩,.slice none 0 0,.slice none 0 0],.agg #[.int .i64 3,.int .i64 1,.int .u64 0,.string ⟨#[]⟩,.slice none 0 0,.slice none 0 0]] (by intro x hx;simp only[List.mem_cons,List.not_mem_nil,or_false] at hx;rcases hx with rfl | rfl<;>exact⟨_,_,_,_,_,_,_,_,_,_,rfl⟩) ⟨_,_,rfl,(kG 6 0 0 ⟨#[120]⟩ (by unfold jQ j9 jI;decide) _),⟨_,_,rfl,(kG 3 1 0 ⟨#[]⟩ (by unfold jQ j9 jI;decide) _),rfl⟩⟩ (by simp)
  exact hK _ _ _ rfl ((jC.refl _).alloc _) ⟨⟨_,rfl⟩,hbb⟩
 refine⟨?_,?_⟩
 ·intro y w2 hG hD K hK
  simp only[jM,zq4,zq5,Is,and_true] at hD
  have h1:=hD.1
  have h4:=hD.2.2.2
  simp only[jD,Act.put,zq1,zq2,zq3,zq4,zq5,Is] at hK⊢
  simp only[hD] at hK⊢
  clear hD
  refine jF ?_
  skip
  obtain⟨⟨gq,eq⟩,hq⟩:=h1
  obtain⟨⟨gr,er⟩,hr⟩:=h4
  rw[eq] at hq
  rw[er] at hr
  simp only[eq,er] at hK⊢
  go_simp
  exact hK _ _ _ rfl (jC.refl _) (QJ hq hr)
 refine⟨?_,?_⟩
 ·intro y w2 hG hD K hK
  simp only[jM,zq4,zq5,Is,and_true] at hD
  have h5:=hD.2.2.2.2.2
  simp only[jD,Act.put,zq1,zq2,zq3,zq4,zq5,Is] at hK⊢
  simp only[hD] at hK⊢
  clear hD
  refine jF ?_
  go_simp
  refine (JR (.mk 17 0 0 ⟨#[]⟩ [⟨#[98]⟩,⟨#[97]⟩] [(.mk 4 0 1 ⟨#[]⟩ [] []),(.mk 5 0 0 ⟨#[120]⟩ [] [])]) (.mk 17 0 0 ⟨#[]⟩ [⟨#[97]⟩,⟨#[98]⟩] [(.mk 6 0 0 ⟨#[120]⟩ [] []),(.mk 3 1 0 ⟨#[]⟩ [] [])]) _ _ w2 (Nd.st _ _ _ _ hG nin) h5 (by decide)).mono ?_
  rintro r w3 ⟨bq,rfl,hbq,hg3⟩
  obtain rfl:bq=true:=hbq.2 w09_e
  exact hK _ _ _ rfl hg3 rfl
 refine⟨zst,zst,zst,zst,zst,?_⟩
 refine⟨?_,?_⟩
 ·intro y w2 hG hD K hK
  simp only[jM,zq4,zq5,Is,and_true] at hD
  simp only[jD,Act.put,zq1,zq2,zq3,zq4,zq5,Is] at hK⊢
  simp only[hD] at hK⊢
  clear hD
  refine jF ?_
  go_simp
  refine (y8 1 _).mono ?_
  rintro r w3 ⟨rfl,hg3⟩
  exact hK _ _ _ rfl hg3 rfl
 refine⟨?_,?_⟩
 ·intro y w2 hG hD K hK
  simp only[jM,zq4,zq5,Is,and_true] at hD
  simp only[jD,Act.put,zq1,zq2,zq3,zq4,zq5,Is] at hK⊢
  simp only[hD] at hK⊢
  clear hD
  refine jF ?_
  go_simp
  have hbb:=zC w2 [(.mk 4 0 1 ⟨#[]⟩ [] [])] [.agg #[.int .i64 4,.int .i64 0,.int .u64 1,.string ⟨#[]⟩,.slice none 0 0,.slice none 0 0]] (by intro x hx;simp only[List.mem_cons,List.not_mem_nil,or_false] at hx;subst hx;exact⟨_,_,_,_,_,_,_,_,_,_,rfl⟩) ⟨_,_,rfl,(kG 4 0 1 ⟨#[]⟩ (by unfold jQ j9 jI;decide) _),rfl⟩ (by simp)
  exact hK _ _ _ rfl ((jC.refl _).alloc _) ⟨⟨_,rfl⟩,hbb⟩
 refine⟨?_,?_⟩
 ·intro y w2 hG hD K hK
  simp only[jM,zq4,zq5,Is,and_true] at hD
  have h13:=hD.2.2.2.2.2.2.2.2.2.2.2.2.2
  simp only[jD,Act.put,zq1,zq2,zq3,zq4,zq5,Is] at hK⊢
  simp only[hD] at hK⊢
  clear hD
  refine jF ?_
  skip
  obtain⟨⟨gq,eq⟩,hq⟩:=h13
  rw[eq] at hq hK⊢
  go_simp
  refine (yJ 10 _ _ _ _).mono ?_
  rintro r w3 ⟨rfl,hg3⟩
  exact hK _ _ _ rfl hg3 (qK 10 (by unfold jQ;decide) (Rn.st _ _ _ _ hg3 hq))
 refine⟨?_,?_⟩
 ·intro y w2 hG hD K hK
  simp only[jM,zq4,zq5,Is,and_true] at hD
  simp only[jD,Act.put,zq1,zq2,zq3,zq4,zq5,Is] at hK⊢
  simp only[hD] at hK⊢
  clear hD
  refine jF ?_
  go_simp
  refine (z8 1 _).mono ?_
  rintro r w3 ⟨rfl,hg3⟩
  exact hK _ _ _ rfl hg3 rfl
 refine⟨?_,?_⟩
 ·intro y w2 hG hD K hK
  simp only[jM,zq4,zq5,Is,and_true] at hD
  simp only[jD,Act.put,zq1,zq2,zq3,zq4,zq5,Is] at hK⊢
  simp only[hD] at hK⊢
  clear hD
  refine jF ?_
  go_simp
  have hbb:=zC w2 [(.mk 3 1 0 ⟨#[]⟩ [] [])] [.agg #[.int .i64 3,.int .i64 1,.int .u64 0,.string ⟨#[]⟩,.slice none 0 0,.slice none 0 0]] (by intro x hx;simp only[List.mem_cons,List.not_mem_nil,or_false] at hx;subst hx;exact⟨_,_,_,_,_,_,_,_,_,_,rfl⟩) ⟨_,_,rfl,(kG 3 1 0 ⟨#[]⟩ (by unfold jQ j9 jI;decide) _),rfl⟩ (by simp)
  exact hK _ _ _ rfl ((jC.refl _).alloc _) ⟨⟨_,rfl⟩,hbb⟩
 refine⟨?_,?_⟩
 ·intro y w2 hG hD K hK
  simp only[jM,zq4,zq5,Is,and_true] at hD
  have h16:=hD.2.2.2.2.2.2.2.2.2.2.2.2.2.2.2.2
  simp only[jD,Act.put,zq1,zq2,zq3,zq4,zq5,Is] at hK⊢
  simp only[hD] at hK⊢
  clear hD
  refine jF ?_
  skip
  obtain⟨⟨gq,eq⟩,hq⟩:=h16
  rw[eq] at hq hK⊢
  go_simp
  refine (yJ 11 _ _ _ _).mono ?_
  rintro r w3 ⟨rfl,hg3⟩
  exact hK _ _ _ rfl hg3 (qK 11 (by unfold jQ;decide) (Rn.st _ _ _ _ hg3 hq))
 refine⟨?_,?_⟩
 ·intro y w2 hG hD K hK
  simp only[jM,zq4,zq5,Is,and_true] at hD
  have h14:=hD.2.2.2.2.2.2.2.2.2.2.2.2.2.2.1
  have h17:=hD.2.2.2.2.2.2.2.2.2.2.2.2.2.2.2.2.2
  simp only[jD,Act.put,zq1,zq2,zq3,zq4,zq5,Is] at hK⊢
  simp only[hD] at hK⊢
  clear hD
  refine jF ?_
  go_simp
  refine (qR (.mk 10 0 0 ⟨#[]⟩ [] [(.mk 4 0 1 ⟨#[]⟩ [] [])]) (.mk 11 0 0 ⟨#[]⟩ [] [(.mk 3 1 0 ⟨#[]⟩ [] [])]) _ _ w2 h14 h17 (by decide) (by decide)).mono ?_
  rintro r w3 ⟨bq,rfl,hbq,hg3⟩
  obtain rfl:bq=true:=hbq.2 w09_h
  exact hK _ _ _ rfl hg3 rfl
 refine⟨zst,zst,?_⟩
 refine⟨?_,?_⟩
 ·intro y w2 hG hD K hK
  simp only[jM,zq4,zq5,Is,and_true] at hD
  simp only[jD,Act.put,zq1,zq2,zq3,zq4,zq5,Is] at hK⊢
  simp only[hD] at hK⊢
  clear hD
  refine jF ?_
  go_simp
  refine (z8 1 _).mono ?_
  rintro r w3 ⟨rfl,hg3⟩
  exact hK _ _ _ rfl hg3 rfl
 refine⟨?_,?_⟩
 ·intro y w2 hG hD K hK
  simp only[jM,zq4,zq5,Is,and_true] at hD
  simp only[jD,Act.put,zq1,zq2,zq3,zq4,zq5,Is] at hK⊢
  simp only[hD] at hK⊢
  clear hD
  refine jF ?_
  go_simp
  refine (KB ⟨#[49]⟩ _).mono ?_
  rintro r w3 ⟨rfl,hg3⟩
  exact hK _ _ _ rfl hg3 rfl
 refine⟨?_,?_⟩
 ·intro y w2 hG hD K hK
  simp only[jM,zq4,zq5,Is,and_true] at hD
  simp only[jD,Act.put,zq1,zq2,zq3,zq4,zq5,Is] at hK⊢
  simp only[hD] at hK⊢
  clear hD
  refine jF ?_
  go_simp
  refine (qR (.mk 3 1 0 ⟨#[]⟩ [] []) (.mk 6 0 0 ⟨#[49]⟩ [] []) _ _ w2 (kG 3 1 0 ⟨#[]⟩ (by unfold jQ j9 jI;decide) _) (kG 6 0 0 ⟨#[49]⟩ (by unfold jQ j9 jI;decide) _) (by decide) (by decide)).mono ?_
  rintro r w3 ⟨bq,rfl,hbq,hg3⟩
  obtain rfl:bq=false:=by cases bq;rfl;exact absurd (hbq.1 rfl) w09_f
  exact hK _ _ _ rfl hg3 rfl
 refine⟨zst,zst,zst,zst,zst,?_⟩
 refine⟨?_,?_⟩
 ·intro y w2 hG hD K hK
  simp only[jM,zq4,zq5,Is,and_true] at hD
  simp only[jD,Act.put,zq1,zq2,zq3,zq4,zq5,Is] at hK⊢
  simp only[hD] at hK⊢
  clear hD
  refine jF ?_
  go_simp
  refine (qR (.mk 0 0 0 ⟨#[]⟩ [] []) (.mk 0 0 0 ⟨#[]⟩ [] []) _ _ w2 (kG 0 0 0 ⟨#[]⟩ (by unfold jQ j9 jI;decide) _) (kG 0 0 0 ⟨#[]⟩ (by unfold jQ j9 jI;decide) _) (by decide) (by decide)).mono ?_
  rintro r w3 ⟨bq,rfl,hbq,hg3⟩
  obtain rfl:bq=false:=by cases bq;rfl;exact absurd (hbq.1 rfl) w09_g
  exact hK _ _ _ rfl hg3 rfl
 refine⟨zst,zst,zst,?_⟩
 trivial
def zQ (t:Tr):Tr:=(zY 60 (120 - 1) t).1
theorem KC (t:Tr):(zQ t).size≤120:=by unfold zQ;have:=vX 60 t (120 - 1);omega
theorem KD (t:Tr) (v:Value) (w:World) (hn:jL w t v):Calls Try.prog 9 #[v] w fun r w'=>∃v',r=.returned v'∧jL w' (zQ t) v'∧jC w w':=by
 have HN:=zh hn
 obtain⟨k,n,u,s,a4,n4,c4,a5,n5,c5,rfl⟩:=hn.node6
 clear hn
 go_enter Try.func9,Try.ntmps9
 go_wp2_with fail
 have hg1:=(jC.refl w).alloc (.cells #[.int .i64 k,.int .i64 n,.int .u64 u,.string s,.slice a4 n4 c4,.slice a5 n5 c5] 26)
 have hs1:(w.alloc (.cells #[.int .i64 k,.int .i64 n,.int .u64 u,.string s,.slice a4 n4 c4,.slice a5 n5 c5] 26)).heap.size=w.heap.size+1:=World.size_alloc _ _
 generalize (w.alloc (.cells #[.int .i64 k,.int .i64 n,.int .u64 u,.string s,.slice a4 n4 c4,.slice a5 n5 c5] 26))=w1 at *
 have hb2:=heap_alloc_new w1 (.cells #[.int .i64 0,.int .i64 0,.int .u64 0,.string ⟨#[]⟩,.slice none 0 0,.slice none 0 0] 26)
 have hg2:=(jC.refl w1).alloc (.cells #[.int .i64 0,.int .i64 0,.int .u64 0,.string ⟨#[]⟩,.slice none 0 0,.slice none 0 0] 26)
 generalize (w1.alloc (.cells #[.int .i64 0,.int .i64 0,.int .u64 0,.string ⟨#[]⟩,.slice none 0 0,.slice none 0 0] 26))=w2 at *
 rw[hs1] at hb2
 have HG:=zh (hg1.trans hg2)
 refine (JH 120 60 (by omega) (by omega) (by omega) t _ w2 (HN.out.grew HG.out)).mono ?_
 rintro r w3 ⟨v1,rfl,ho1,hg3⟩
 have hb3:=hg3.heap hb2
 have HO:=zh ho1
 obtain⟨rk,rn,ru,rs,ra4,rn4,rc4,ra5,rn5,rc5,rfl⟩:=ho1.node6
 have HFIN:Hid (jL (jH w3 (w.heap.size+1) (.int .i64 rk) (.int .i64 rn) (.int .u64 ru) (.string rs) (.slice ra4 rn4 rc4) (.slice ra5 rn5 rc5)) (zQ t) (.agg #[.int .i64 rk,.int .i64 rn,.int .u64 ru,.string rs,.slice ra4 rn4 rc4,.slice ra5 rn5 rc5])∧jC w (jH w3 (w.heap.size+1) (.int .i64 rk) (.int .i64 rn) (.int .u64 ru) (.string rs) (.slice ra4 rn4 rc4) (.slice ra5 rn5 rc5))):=by
  have hT:Moved (fun k=>k=w.heap.size+1) w3 (jH w3 (w.heap.size+1) (.int .i64 rk) (.int .i64 rn) (.int .u64 ru) (.string rs) (.slice ra4 rn4 rc4) (.slice ra5 rn5 rc5)):=kC w3 (w.heap.size+1) _ _ _ _ _ _
  have h2:=(Array.getElem?_eq_some_iff.1 hb2).1
  have h3:=hg3.size
  generalize (jH w3 (w.heap.size+1) (.int .i64 rk) (.int .i64 rn) (.int .u64 ru) (.string rs) (.slice ra4 rn4 rc4) (.slice ra5 rn5 rc5))=W at *
  refine⟨(HO.out.kept hT (fun g hg e=>?_)).node,Moved.fresh (HG.out.trans hg3) hT (fun g e=>by omega)⟩
  have:=hg.1;omega
 have z0:=jA hb3 0 _ rfl
 have z1:=jA hb3 1 _ rfl
 have z2:=jA hb3 2 _ rfl
 have z3:=jA hb3 3 _ rfl
 have z4:=jA hb3 4 _ rfl
 have z5:=jA hb3 5 _ rfl
 have f0:=jB hb3 0
 have f1:=jB hb3 1
 have f2:=jB hb3 2
 have f3:=jB hb3 3
 have f4:=jB hb3 4
 have f5:=jB hb3 5
 clear hg1 hs1 hb2 hg2 ho1 hg3 hb3
 go_wp2_with fail
 refine bodyPost_ret (v:=.agg #[.int .i64 rk,.int .i64 rn,.int .u64 ru,.string rs,.slice ra4 rn4 rc4,.slice ra5 rn5 rc5]) (by simp[results,Try.results9,go_sem,z0,z1,z2,z3,z4,z5]) rfl ?_
 exact⟨_,rfl,HFIN.out⟩
theorem aQ (w:World) (g k:Nat) (v:Value):Moved (fun j=>j=g) w (w.setCell ⟨g,k,none⟩ v):=Moved.setCell (p:=⟨g,k,none⟩) (Moved.refl (fun j=>j=g) w) (fun _=>rfl) v
theorem bS {w:World} {B:Nat} {v:Value} {ks:List ByteArray} (h:kD w B v ks) {g:Nat} (hg:v.ownBlock=some g):g < w.heap.size:=World.ownsRow.lt h g hg |>.2
theorem aR:∀(m:Nat) (t:Tr),t.size≤m→∀(v:Value) (w:World) (B:Nat) (S:Nat→Prop),jW w B t v S→(∀g,S g→g < w.heap.size) →
 Calls Try.prog 13 #[v] w fun r w'=>r=.returned (.tuple #[])∧Moved S w w':=by
 intro m
 induction m with
 | zero=>intro t ht;have:=t.size_pos;omega
 | succ m ih=>
 intro t ht v w B S ho hS
 obtain⟨k,n,u,s,keys,l⟩:=t
 simp only[jW] at ho
 obtain⟨hb,kv,lv,vs,S',rfl,hk,hL,h3,h4,h5,h6,kP⟩:=ho
 obtain⟨ka,kc,rfl,hkc1,hkc2,_⟩:=jT hk
 obtain⟨la,lc,rfl,hlc1,hlc2,_⟩:=jT hL.1
 have hvl:=kP.length
 obtain⟨f,f1,f2,f3⟩:=kP.idx
 have HIH:Hid (∀x∈l,∀(v:Value) (w:World) (B:Nat) (S:Nat→Prop),jW w B x v S→(∀g,S g→g < w.heap.size)→Calls Try.prog 13 #[v] w fun r w'=>r=.returned (.tuple #[])∧Moved S w w'):=fun x hx=>ih x (by have:=k9 hx;simp only[Tr.size] at ht;omega)
 have hkl:keys.length≤9223372036854775807:=by unfold jI at hkc2;omega
 have hll:vs.length≤9223372036854775807:=by unfold jI at hlc2;omega
 have HS:=zh hS
 have HK:=zh hk
 have HL:=zh hL
 have H3:=zh h3
 have H4:=zh h4
 have H5:=zh h5
 have HVL:=zh hvl
 have HF:=zh (And.intro f1 (And.intro f2 (And.intro f3 h6)))
 clear hvl hS hk hL h3 h4 h5 f1 f2 f3 h6 kP ih hb hkc1 hkc2 hlc1 hlc2
 go_enter Try.func13,Try.ntmps13
 go_upto_region 1 with fail
 obtain⟨N,hN⟩:∃N,w.heap.size=N:=⟨_,rfl⟩
 have hb1:=heap_alloc_new w (.cells #[.int .i64 k,.int .i64 n,.int .u64 u,.string s,.slice ka keys.length kc,.slice la vs.length lc] 26)
 have hg1:=(jC.refl w).alloc (.cells #[.int .i64 k,.int .i64 n,.int .u64 u,.string s,.slice ka keys.length kc,.slice la vs.length lc] 26)
 generalize (w.alloc (.cells #[.int .i64 k,.int .i64 n,.int .u64 u,.string s,.slice ka keys.length kc,.slice la vs.length lc] 26))=w1 at *
 rw[hN] at hb1
 try rw[hN]
 have HG1:=zh hg1
 have HB1:=zh hb1
 have HNN:=zh hN
 clear hb1 hg1 hN
 go_wp2_with fail
 go_loopw [2] (fun iv wr=>∃(j:Nat) (ks:List ByteArray),j≤keys.length∧iv=.int .i64 j∧ks.length=keys.length∧Hid (kD wr B (.slice ka keys.length kc) ks∧Moved (fun g=>(Value.slice ka keys.length kc).ownBlock=some g) w wr∧wr.heap[N]? = some (.cells #[.int .i64 k,.int .i64 n,.int .u64 u,.string s,.slice ka keys.length kc,.slice la vs.length lc] 26 (0,0)))) (fun iv _=>keys.length - (intOf iv).toNat)
 case atStart=>exact⟨0,keys,Nat.zero_le _,rfl,rfl,HK.out.grew HG1.out,Moved.of_grew HG1.out,HB1.out⟩
 case round=>
  generalize wr=w2 at *
  obtain⟨j,ks,hj,rfl,hks,HW⟩:=hrel
  have e4:w2.cell? ⟨N,4,none⟩=some (.slice ka keys.length kc):=jA HW.out.2.2 4 _ rfl
  have e5:w2.cell? ⟨N,5,none⟩=some (.slice la vs.length lc):=jA HW.out.2.2 5 _ rfl
  by_cases hlt:j < keys.length
  ·have kE:=HW.out.1
   rcases kE.2 with ⟨e,hn0⟩|⟨g,cap,cur,e,_⟩
   ·exfalso;injection e with _ q2 _;omega
   ·injection e with e1 e2 e3
    subst e1
    clear e2 e3
    obtain⟨q,hq⟩:∃q,ks[j]? = some q:=⟨_,List.getElem?_eq_getElem (by omega)⟩
    have hkq:=kD.stored kE j ⟨#[115,112,111,105,108,116]⟩
    have dfk:=kD.frozen kE j
    have dck:=kD.at kE hq
    have hmk:=aQ w2 g j (.string ⟨#[115,112,111,105,108,116]⟩)
    have hgN:g≠N:=fun e=>by have:=bS HK.out (g:=g) rfl;have:=HNN.out;omega
    have HX:Hid (kD (w2.setCell ⟨g,j,none⟩ (.string ⟨#[115,112,111,105,108,116]⟩)) B (.slice (some ⟨g,0,none⟩) keys.length kc) (ks.set j ⟨#[115,112,111,105,108,116]⟩)∧Moved (fun g'=>(Value.slice (some ⟨g,0,none⟩) keys.length kc).ownBlock=some g') w (w2.setCell ⟨g,j,none⟩ (.string ⟨#[115,112,111,105,108,116]⟩))∧(w2.setCell ⟨g,j,none⟩ (.string ⟨#[115,112,111,105,108,116]⟩)).heap[N]? = some (.cells #[.int .i64 k,.int .i64 n,.int .u64 u,.string s,.slice (some ⟨g,0,none⟩) keys.length kc,.slice la vs.length lc] 26 (0,0))):=
     ⟨hkq,Moved.trans HW.out.2.1 hmk (fun q _ e=>by show some g=some q;rw[e]),hmk.heap HW.out.2.2 (fun e=>hgN e.symm)⟩
    clear hkq hmk kE hq
    have hji:(j:Int) < keys.length:=by omega
    go_wp2_with fail
    go_roundw
    case rel=>exact⟨j+1,_,by omega,by go_num,by rw[List.length_set];exact hks,HX.out⟩
    case measure=>simp[intOf];omega
  ·have ej:j=keys.length:=by omega
   subst ej
   clear hlt
   have HO:=zh (show kK w2 B (.slice la vs.length lc) vs from ⟨Moved.owns HW.out.2.1 HL.out.1 (fun g hg e=>H5.out g e hg),HL.out.2⟩)
   have HM:Hid (Moved S w w2):=HW.out.2.1.mono (fun g _ e=>(H3.out g e).1)
   have HR:=zh HW.out.2.2
   have HC:Hid (∀i x y,l[i]? = some x→vs[i]? = some y→jW w2 B x y (f i)):=fun i x y hx hy=>jW.kept HW.out.2.1 (HF.out.2.2.1 i x y hx hy) (fun g hg e=>(H3.out g e).2 (HF.out.1 i g hg))
   clear HW hks
   go_wp2_with fail
   clear e4 e5
   go_loopw [3] (fun iv wr=>∃(i:Nat) (us:List Value),i≤vs.length∧iv=.int .i64 i∧Hid (us.length=vs.length∧∀j,i≤j→us[j]? = vs[j]?)∧Hid (kK wr B (.slice la vs.length lc) us)∧Hid (Moved S w wr)∧Hid (wr.heap[N]? = some (.cells #[.int .i64 k,.int .i64 n,.int .u64 u,.string s,.slice ka keys.length kc,.slice la vs.length lc] 26 (0,0)))∧Hid (∀j x y,i≤j→l[j]? = some x→vs[j]? = some y→jW wr B x y (f j))) (fun iv _=>vs.length - (intOf iv).toNat)
   case atStart=>exact⟨0,vs,Nat.zero_le _,rfl,⟨rfl,fun _ _=>rfl⟩,HO.out,HM.out,HR.out,fun j x y _=>HC.out j x y⟩
   case round=>
    clear HO HM HR HC
    generalize wr=w3 at *
    obtain⟨i,us,hi,rfl,HU,HO,HM,HR,HC⟩:=hrel
    have e4:w3.cell? ⟨N,4,none⟩=some (.slice ka keys.length kc):=jA HR.out 4 _ rfl
    have e5:w3.cell? ⟨N,5,none⟩=some (.slice la vs.length lc):=jA HR.out 5 _ rfl
    by_cases hil:i < vs.length
    ·obtain⟨x,hx⟩:∃x,l[i]? = some x:=⟨_,List.getElem?_eq_getElem (by have:=HVL.out;omega)⟩
     obtain⟨y,hy⟩:∃y,vs[i]? = some y:=⟨_,List.getElem?_eq_getElem hil⟩
     have hu:us[i]? = some y:=by rw[HU.out.2 i (Nat.le_refl _)];exact hy
     have hox:=HC.out i x y (Nat.le_refl _) hx hy
     have HXM:=zh (List.mem_of_getElem? hx)
     have kE:=HO.out
     rcases kE.1.2 with ⟨e,hn0⟩|⟨g,cap,cur,e,_⟩
     ·exfalso;injection e with _ q2 _;omega
     ·injection e with e1 e2 e3
      subst e1
      clear e2 e3
      have jP:=kE.at hu
      obtain⟨yk,yn,yu,ys,ya4,yn4,yc4,ya5,yn5,yc5,rfl⟩:=hox.node6
      have HOX:=zh hox
      obtain⟨z0,z1,z2,z3,z4,z5,e6,r0,r1,r2,r3,r4,r5⟩:=jP
      injection e6 with e6
      simp only[Array.mk.injEq,List.cons.injEq,and_true] at e6
      obtain⟨rfl,rfl,rfl,rfl,rfl,rfl⟩:=e6
      have hii:(i:Int) < vs.length:=by omega
      clear kE hox hx
      go_wp2_with fail
      refine (HIH.out x HXM.out _ w3 B (f i) HOX.out (fun g hg=>Nat.lt_of_lt_of_le (HS.out g (HF.out.2.2.2 g (HF.out.1 i g hg))) HM.out.size)).mono ?_
      rintro r w4 ⟨rfl,hm⟩
      have hgS:∀g',(Value.slice (some ⟨g,0,none⟩) vs.length lc).ownBlock=some g'→S g'∧¬S' g':=H4.out
      have hgg:=hgS g rfl
      have hNS:¬S N:=fun e=>by have:=HS.out N e;have:=HNN.out;omega
      have hR4:=hm.heap HR.out (fun e=>hNS (HF.out.2.2.2 N (HF.out.1 i N e)))
      have hO4:kK w4 B (.slice (some ⟨g,0,none⟩) vs.length lc) us:=⟨Moved.owns hm HO.out.1 (fun g' hg' e=>(hgS g' hg').2 (HF.out.1 i g' e)),HO.out.2⟩
      have e5':w4.cell? ⟨N,5,none⟩=some (.slice (some ⟨g,0,none⟩) vs.length lc):=jA hR4 5 _ rfl
      have e4':w4.cell? ⟨N,4,none⟩=some (.slice ka keys.length kc):=jA hR4 4 _ rfl
      obtain⟨q0,q1,q2,q3,q4,q5,e6,cc0,cc1,cc2,cc3,cc4,cc5⟩:=hO4.at hu
      have ff0:=hO4.frozen (i*6)
      have ff1:=hO4.frozen (i*6+1)
      have ff2:=hO4.frozen (i*6+2)
      have ff3:=hO4.frozen (i*6+3)
      have ff4:=hO4.frozen (i*6+4)
      have ff5:=hO4.frozen (i*6+5)
      have hst:=kK.stored hO4 (i:=i) (by have:=HU.out.1;omega) (x:=.agg #[.int .i64 (-9),.int .i64 0,.int .u64 0,.string ⟨#[115,112,111,105,108,116]⟩,.slice none 0 0,.slice none 0 0]) ⟨_,_,_,_,_,_,_,_,_,_,rfl⟩ rfl
      have hmv:=vM w4 g (i*6) (.int .i64 (-9)) (.int .i64 0) (.int .u64 0) (.string ⟨#[115,112,111,105,108,116]⟩) (.slice none 0 0) (.slice none 0 0)
      have HST:=zh hst
      have HMV:=zh hmv
      have HR4:=zh hR4
      have HM4:Hid (Moved S w w4):=HM.out.trans hm (fun q _ e=>HF.out.2.2.2 q (HF.out.1 i q e))
      have HC4:Hid (∀j x y,i+1≤j→l[j]? = some x→vs[j]? = some y→jW w4 B x y (f j)):=fun j x y hj hx hy=>jW.kept hm (HC.out j x y (by omega) hx hy) (fun q hq e=>HF.out.2.1 i j q (by omega) e hq)
      have HGG:=zh hgg
      have HNS:=zh hNS
      clear hst hmv hR4 hO4 hm hgS hgg hNS e4 e5 r0 r1 r2 r3 r4 r5 e6 hu hy
      go_wp2_with fail
      go_roundw
      case rel=>
       refine⟨i+1,us.set i _,by omega,by go_num,⟨by rw[List.length_set];exact HU.out.1,fun j hj=>?_⟩,HST.out,?_,?_,fun j x y hj hx hy=>?_⟩
       ·rw[List.getElem?_set_ne (by omega)];exact HU.out.2 j (by omega)
       ·exact HM4.out.trans HMV.out (fun q _ e=>by rw[show q=g from e];exact HGG.out.1)
       ·exact HMV.out.heap HR4.out (fun e=>HNS.out (by rw[show N=g from e];exact HGG.out.1))
       ·exact jW.kept HMV.out (HC4.out j x y hj hx hy) (fun q hq e=>HGG.out.2 (by rw[← show q=g from e];exact HF.out.1 j q hq))
      case measure=>simp[intOf];omega
    ·have ei:i=vs.length:=by omega
     subst ei
     go_wp2
     go_end0
     exact⟨rfl,HM.out⟩
end Go.Proofs.Ytfbeepkogcmlmaa
