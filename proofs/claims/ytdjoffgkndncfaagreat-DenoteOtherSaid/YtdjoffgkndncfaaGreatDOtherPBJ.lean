/-Texts-/
import Derived.Test.YtdjoffgkndncfaaGreatDOtherPBB
import Derived.Test.YtdjoffgkndncfaaGreatDOtherPBI
set_option linter.unusedVariables false
set_option linter.unusedSimpArgs false
namespace Go.Proofs.YtdjoffgkndncfaaGreat
open Go Go.ChangeShapes Go.WideShapes Go.ChangeAt Go.RowKit Go.Joins
end Go.Proofs.YtdjoffgkndncfaaGreat
