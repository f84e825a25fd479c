/-
  Texts of the proof.
-/
import Derived.Test.YtfbeepkogcmlmaaNormalKnownPAH
import Derived.Test.YtfbeepkogcmlmaaNormalKnownPAO
set_option linter.unusedVariables false
set_option linter.unusedSimpArgs false
set_option maxRecDepth 100000
namespace Go.Proofs.Ytfbeepkogcmlmaa
open Go Go.ChangeShapes Go.WideShapes Go.ChangeAt Go.RowKit Go.Joins Go.Deep
def fF (k:Nat):Value:=.func (.func k) #[] #[]
def yO:List (Int × Value):=[(4,fF 44),(9,fF 44),(8,fF 47),(5,fF 48),(11,fF 46),(12,fF 46),(13,fF 46),(14,fF 46),(15,fF 46),(16,fF 46)]
theorem aJ (w:World):Calls Try.prog 29 #[] w fun r w'=>∃b,r=.returned (.map (some b))∧w.heap.size≤b∧KU w' b yO∧jC w w':=by
 go_enter Try.func29,Try.ntmps29
 have hmk:=@run_makeMap Try.prog
 have HB:Hid (KU (w.alloc (.map #[] 0)) w.heap.size []):=(MapKept.heap_alloc w _).1
 have HG:Hid (jC w (w.alloc (.map #[] 0))):=(jC.refl w).alloc _
 go_wp2_with (refine Z1 _ Try.underlying48 Try.underlying3 rfl _ _ _ rfl w.heap.size _ rfl HB.out _ rfl _ rfl (by rfl) ?_;intro w' hb' hbel _;replace HB:=zh hb';replace HG:=zh (Below.trans HG.out (hbel w.heap.size (Nat.le_refl _)));clear hb' hbel)
 go_ret
 exact⟨_,rfl,Nat.le_refl _,HB.out,HG.out⟩
end Go.Proofs.Ytfbeepkogcmlmaa
