/-
  Texts of the proof.
-/
import Derived.Test.YtdjoffgkndncfaaGreatEFlagsPAP
import Derived.Laws.BytesArg
set_option linter.unusedVariables false
set_option linter.unusedSimpArgs false
namespace Go.Proofs.YtdjoffgkndncfaaGreat
open Go Go.ChangeShapes Go.WideShapes Go.ChangeAt Go.RowKit Go.Joins Go.Deep
theorem CB (s:ByteArray):(fD s).size=s.size+1:=by simp[fD,ByteArray.size_append];rfl
end Go.Proofs.YtdjoffgkndncfaaGreat
