/-
  Texts of the proof.
-/
import Derived.Test.YtjnpcddbgfmpcaaGreatDoorBMapsPAO
import Derived.Test.YtjnpcddbgfmpcaaGreatDoorBMapsPAW
set_option linter.unusedVariables false
set_option linter.unusedSimpArgs false
namespace Go.Proofs.YtjnpcddbgfmpcaaGreatDoor
open Go Go.ChangeShapes Go.WideShapes Go.ChangeAt Go.RowKit Go.Joins Go.Deep Go.Shelf
attribute [local go_sem] Oper.semAt_some
end Go.Proofs.YtjnpcddbgfmpcaaGreatDoor
