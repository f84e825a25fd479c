/-
  Texts of the proof.
-/
import Derived.Test.YtjnpcddbgfmpcaaGreatDoorBListsPAF
import Derived.Laws.EntriesVeiled
import Derived.Test.YtjnpcddbgfmpcaaGreatDoorBListsPAG
set_option linter.unusedVariables false
set_option linter.unusedSimpArgs false
namespace Go.Proofs.YtjnpcddbgfmpcaaGreatDoor
open Go Go.ChangeShapes Go.WideShapes Go.ChangeAt Go.RowKit Go.Joins Go.Deep
def leF:List UInt8→Int
 | []=>0
 | c::r=>(c.toNat:Int)+256*leF r
def yX (l:List UInt8) (at_ x:Int):Int × Int:=if isW x=true then (if at_ < 0∨at_ > l.length - x then (0,6) else (leF ((l.drop at_.toNat).take x.toNat),0)) else (0,2)
def sgnF (u x:Int):Int:=if u < 2 ^ (8*x.toNat - 1) then u else u - 2 ^ (8*x.toNat)
def a6 (l:List UInt8) (at_ x:Int):Int × Int:=if (yX l at_ x).2=0 then (sgnF (yX l at_ x).1 x,0) else (0,(yX l at_ x).2)
end Go.Proofs.YtjnpcddbgfmpcaaGreatDoor
