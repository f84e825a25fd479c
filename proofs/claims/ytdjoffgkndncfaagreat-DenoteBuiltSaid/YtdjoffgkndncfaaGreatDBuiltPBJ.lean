/-
  Texts of the proof.
-/
import Derived.Test.YtdjoffgkndncfaaGreatDBuiltPBB
import Derived.Test.YtdjoffgkndncfaaGreatDBuiltPBI
set_option linter.unusedVariables false
set_option linter.unusedSimpArgs false
namespace Go.Proofs.YtdjoffgkndncfaaGreat
open Go Go.ChangeShapes Go.WideShapes Go.ChangeAt Go.RowKit Go.Joins
end Go.Proofs.YtdjoffgkndncfaaGreat
