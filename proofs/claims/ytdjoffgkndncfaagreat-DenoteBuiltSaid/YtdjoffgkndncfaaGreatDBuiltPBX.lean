/-
  Texts of the proof.
-/
import Derived.Test.YtdjoffgkndncfaaGreatDBuiltPBV
import Derived.Test.YtdjoffgkndncfaaGreatDBuiltPBW
set_option linter.unusedVariables false
set_option linter.unusedSimpArgs false
namespace Go.Proofs.YtdjoffgkndncfaaGreat
open Go Go.ChangeShapes Go.WideShapes Go.ChangeAt Go.RowKit Go.Joins Go.Deep
end Go.Proofs.YtdjoffgkndncfaaGreat
