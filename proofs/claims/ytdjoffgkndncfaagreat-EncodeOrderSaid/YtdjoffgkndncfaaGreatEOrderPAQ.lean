/-
  Texts of the proof.
-/
import Derived.Test.YtdjoffgkndncfaaGreatEOrderPAP
import Derived.Laws.BytesArg
set_option linter.unusedVariables false
set_option linter.unusedSimpArgs false
namespace Go.Proofs.YtdjoffgkndncfaaGreat
open Go Go.ChangeShapes Go.WideShapes Go.ChangeAt Go.RowKit Go.Joins Go.Deep
theorem jMh (s:ByteArray):(jGB s).size=s.size+1:=by simp[jGB,ByteArray.size_append];rfl
end Go.Proofs.YtdjoffgkndncfaaGreat
