/-
  Texts of the proof.
-/
import Derived.Test.YtfbeepkogcmlmaaNormalKnownPAU
import Derived.Test.YtfbeepkogcmlmaaNormalKnownPAR
set_option linter.unusedVariables false
set_option linter.unusedSimpArgs false
set_option maxRecDepth 100000
namespace Go.Proofs.Ytfbeepkogcmlmaa
open Go Go.ChangeShapes Go.WideShapes Go.ChangeAt Go.RowKit Go.Joins Go.Deep
abbrev ZV:Obj:=.cells #[.int .i64 0,.int .i64 0,.int .u64 0,.string ⟨#[]⟩,.slice none 0 0,.slice none 0 0] 26 (0,0)
def JD (v:Value) (S:Nat→Prop) (w:World):Prop:=∃g,v=.pointer (some ⟨g,0,none⟩)∧S g∧w.heap[g]? = some ZV
theorem JD.st:∀v S w w',jC w w'→JD v S w→JD v S w':=fun _ _ _ _ hg ⟨g,e,h1,h2⟩=>⟨g,e,h1,hg.heap h2⟩
theorem JD.made (w:World):ZQ (some JD) (.pointer (some ⟨w.heap.size,0,none⟩)) w (w.alloc ZV):=⟨fun g=>g=w.heap.size,⟨w.heap.size,rfl,rfl,heap_alloc_new _ _⟩,fun g e=>by subst e;exact⟨Nat.le_refl _,by rw[World.size_alloc];exact Nat.lt_succ_self _⟩⟩
def ZS (B:Nat) (t:Tr) (v:Value) (S:Nat→Prop) (w:World):Prop:=jW w B t v S
theorem ZS.st (B:Nat) (t:Tr):∀v S w w',jC w w'→ZS B t v S w→ZS B t v S w':=fun _ _ _ _ hg h=>jW.grew h hg
theorem ZS.made {w w':World} {B:Nat} {t:Tr} {v:Value} (hB:B≤w.heap.size) (h:jW w' w.heap.size t v (jX w w')):ZQ (some (ZS B t)) v w w':=⟨jX w w',h.base hB,fun g h=>h⟩
theorem JE (t:Tr) (v:Value) (w:World) (hn:jL w t v):Calls Try.prog 9 #[v] w fun r w'=>∃v',r=.returned v'∧jW w' w.heap.size (zQ t) v' (jX w w')∧jC w w':=by
 have HN:=zh hn
 obtain⟨k,n,u,s,a4,n4,c4,a5,n5,c5,rfl⟩:=hn.node6
 clear hn
 go_enter Try.func9,Try.ntmps9
 go_wp2_with fail
 have hg1:=(jC.refl w).alloc (.cells #[.int .i64 k,.int .i64 n,.int .u64 u,.string s,.slice a4 n4 c4,.slice a5 n5 c5] 26)
 have hs1:(w.alloc (.cells #[.int .i64 k,.int .i64 n,.int .u64 u,.string s,.slice a4 n4 c4,.slice a5 n5 c5] 26)).heap.size=w.heap.size+1:=World.size_alloc _ _
 generalize (w.alloc (.cells #[.int .i64 k,.int .i64 n,.int .u64 u,.string s,.slice a4 n4 c4,.slice a5 n5 c5] 26))=w1 at *
 have hb2:=heap_alloc_new w1 (.cells #[.int .i64 0,.int .i64 0,.int .u64 0,.string ⟨#[]⟩,.slice none 0 0,.slice none 0 0] 26)
 have hg2:=(jC.refl w1).alloc (.cells #[.int .i64 0,.int .i64 0,.int .u64 0,.string ⟨#[]⟩,.slice none 0 0,.slice none 0 0] 26)
 generalize (w1.alloc (.cells #[.int .i64 0,.int .i64 0,.int .u64 0,.string ⟨#[]⟩,.slice none 0 0,.slice none 0 0] 26))=w2 at *
 rw[hs1] at hb2
 have HG:=zh (hg1.trans hg2)
 refine (JH 120 60 (by omega) (by omega) (by omega) t _ w2 (HN.out.grew HG.out)).mono ?_
 rintro r w3 ⟨v1,rfl,ho1,hg3⟩
 have hb3:=hg3.heap hb2
 have HO:=zh ho1
 obtain⟨rk,rn,ru,rs,ra4,rn4,rc4,ra5,rn5,rc5,rfl⟩:=ho1.node6
 have HFIN:Hid (jW (jH w3 (w.heap.size+1) (.int .i64 rk) (.int .i64 rn) (.int .u64 ru) (.string rs) (.slice ra4 rn4 rc4) (.slice ra5 rn5 rc5)) w.heap.size (zQ t) (.agg #[.int .i64 rk,.int .i64 rn,.int .u64 ru,.string rs,.slice ra4 rn4 rc4,.slice ra5 rn5 rc5]) (jX w (jH w3 (w.heap.size+1) (.int .i64 rk) (.int .i64 rn) (.int .u64 ru) (.string rs) (.slice ra4 rn4 rc4) (.slice ra5 rn5 rc5)))∧jC w (jH w3 (w.heap.size+1) (.int .i64 rk) (.int .i64 rn) (.int .u64 ru) (.string rs) (.slice ra4 rn4 rc4) (.slice ra5 rn5 rc5))):=by
  have hT:Moved (fun k=>k=w.heap.size+1) w3 (jH w3 (w.heap.size+1) (.int .i64 rk) (.int .i64 rn) (.int .u64 ru) (.string rs) (.slice ra4 rn4 rc4) (.slice ra5 rn5 rc5)):=kC w3 (w.heap.size+1) _ _ _ _ _ _
  have h2:=(Array.getElem?_eq_some_iff.1 hb2).1
  have h3:=hg3.size
  generalize (jH w3 (w.heap.size+1) (.int .i64 rk) (.int .i64 rn) (.int .u64 ru) (.string rs) (.slice ra4 rn4 rc4) (.slice ra5 rn5 rc5))=W at *
  have h4:=hT.size
  have h5:=HG.out.size
  refine⟨((HO.out.kept hT (fun g hg e=>?_)).base (by omega)).mono (fun g hg=>?_),Moved.fresh (HG.out.trans hg3) hT (fun g e=>by omega)⟩
  ·have:=hg.1;omega
  ·have:=hg.1;have:=hg.2;exact⟨by omega,by omega⟩
 have z0:=jA hb3 0 _ rfl
 have z1:=jA hb3 1 _ rfl
 have z2:=jA hb3 2 _ rfl
 have z3:=jA hb3 3 _ rfl
 have z4:=jA hb3 4 _ rfl
 have z5:=jA hb3 5 _ rfl
 have f0:=jB hb3 0
 have f1:=jB hb3 1
 have f2:=jB hb3 2
 have f3:=jB hb3 3
 have f4:=jB hb3 4
 have f5:=jB hb3 5
 clear hg1 hs1 hb2 hg2 ho1 hg3 hb3
 go_wp2_with fail
 refine bodyPost_ret (v:=.agg #[.int .i64 rk,.int .i64 rn,.int .u64 ru,.string rs,.slice ra4 rn4 rc4,.slice ra5 rn5 rc5]) (by simp[results,Try.results9,go_sem,z0,z1,z2,z3,z4,z5]) rfl ?_
 exact⟨_,rfl,HFIN.out⟩
end Go.Proofs.Ytfbeepkogcmlmaa
