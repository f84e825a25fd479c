/-
  Texts of the proof.
-/
import Derived.Test.YtjnpcddbgfmpcaaGreatDoorBListsPAS
import Derived.Laws.BytesArg
set_option linter.unusedVariables false
set_option linter.unusedSimpArgs false
namespace Go.Proofs.YtjnpcddbgfmpcaaGreatDoor
open Go Go.ChangeShapes Go.WideShapes Go.ChangeAt Go.RowKit Go.Joins Go.Deep
theorem dU (s:ByteArray):(cY s).size=s.size+1:=by simp[cY,ByteArray.size_append];rfl
end Go.Proofs.YtjnpcddbgfmpcaaGreatDoor
