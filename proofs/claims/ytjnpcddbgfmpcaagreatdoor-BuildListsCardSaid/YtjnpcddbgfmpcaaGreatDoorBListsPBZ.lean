/-
  Texts of the proof.
-/
import Derived.Test.YtjnpcddbgfmpcaaGreatDoorBListsPBY
import Derived.Lib.ReplaceLaws
set_option linter.unusedVariables false
set_option linter.unusedSimpArgs false
namespace Go.Proofs.YtjnpcddbgfmpcaaGreatDoor
open Go Go.ChangeShapes Go.WideShapes Go.ChangeAt Go.RowKit Go.Joins Go.Deep
open Go.Proofs.YtjnpcddbgfmpcaaGreatDoor.Ft (V3 vV okV ValsAt inlineB legalB packF codeF typedF allF)
theorem tD (s:ByteArray) (mx:Int) (w:World) (hs:s.size≤1000) (hm:w.cell? ⟨0,0,none⟩=some (.int .i64 mx)) :
 Calls Tryz.prog 6 #[.string s,.string ⟨#[0]⟩,.string ⟨#[45]⟩] w fun r w'=>r=.returned (.string (Q5 s))∧jA w w':=by
 have hc:=Lib.countB_mul_le ⟨#[0]⟩ (by decide) s.size s (Nat.le_refl _)
 have h:=Tryz.strings_ReplaceAll s ⟨#[0]⟩ ⟨#[45]⟩ mx w (by omega) hm (by decide) (by
  have e:(⟨#[45]⟩:ByteArray).size=(⟨#[0]⟩:ByteArray).size:=rfl
  rw[e];omega)
 rw[show (⟨#[0]⟩:ByteArray).data.toList=[0] from rfl,show (⟨#[45]⟩:ByteArray).data.toList=[45] from rfl,pV] at h
 exact h
end Go.Proofs.YtjnpcddbgfmpcaaGreatDoor
