/-
  Texts of the proof.
-/
import Derived.Test.YtjnpcddbgfmpcaaGreatBTextsPAI
import Derived.Test.YtjnpcddbgfmpcaaGreatBTextsPAZ
set_option linter.unusedVariables false
set_option linter.unusedSimpArgs false
namespace Go.Proofs.YtjnpcddbgfmpcaaGreat
open Go Go.ChangeShapes Go.WideShapes Go.ChangeAt Go.RowKit Go.Joins Go.Deep Go.Shelf
attribute [local go_sem] Oper.semAt_some
end Go.Proofs.YtjnpcddbgfmpcaaGreat
