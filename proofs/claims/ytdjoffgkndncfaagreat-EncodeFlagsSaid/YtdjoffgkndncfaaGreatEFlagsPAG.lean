/-
  Texts of the proof.
-/
import Derived.Test.YtdjoffgkndncfaaGreatEFlagsPAE
import Derived.Laws.EntriesVeiled
import Derived.Test.YtdjoffgkndncfaaGreatEFlagsPAF
set_option linter.unusedVariables false
set_option linter.unusedSimpArgs false
namespace Go.Proofs.YtdjoffgkndncfaaGreat
open Go Go.ChangeShapes Go.WideShapes Go.ChangeAt Go.RowKit Go.Joins Go.Deep
def leF:List UInt8→Int
 | []=>0
 | c::r=>(c.toNat:Int)+256*leF r
def vU (l:List UInt8) (at_ x:Int):Int × Int:=if isW x=true then (if at_ < 0∨at_ > l.length - x then (0,6) else (leF ((l.drop at_.toNat).take x.toNat),0)) else (0,2)
def sgnF (u x:Int):Int:=if u < 2 ^ (8*x.toNat - 1) then u else u - 2 ^ (8*x.toNat)
def fZ (l:List UInt8) (at_ x:Int):Int × Int:=if (vU l at_ x).2=0 then (sgnF (vU l at_ x).1 x,0) else (0,(vU l at_ x).2)
end Go.Proofs.YtdjoffgkndncfaaGreat
