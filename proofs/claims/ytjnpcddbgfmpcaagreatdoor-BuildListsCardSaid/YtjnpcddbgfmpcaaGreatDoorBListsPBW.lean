/-
  Texts of the proof.
-/
import Derived.Test.YtjnpcddbgfmpcaaGreatDoorBListsPBR
import Derived.Test.YtjnpcddbgfmpcaaGreatDoorBListsPBV
set_option linter.unusedVariables false
set_option linter.unusedSimpArgs false
namespace Go.Proofs.YtjnpcddbgfmpcaaGreatDoor
open Go Go.ChangeShapes Go.WideShapes Go.ChangeAt Go.RowKit Go.Joins Go.Deep
open Go.Proofs.YtjnpcddbgfmpcaaGreatDoor.Ft (V3 vV okV ValsAt inlineB legalB packF codeF typedF allF oneF allAt headF fitsL fitsV fitsF belowW isA unpackF)
theorem pU:ZA []:=List.Pairwise.nil
end Go.Proofs.YtjnpcddbgfmpcaaGreatDoor
