/-
  Texts of the proof.
-/
import Derived.WalkKit
import Derived.WalkSpells
import Derived.WalkLawsBesides
import Derived.Test.YtfbeepkogcmlmaaNormalKnownPAB
set_option linter.unusedVariables false
set_option linter.unusedSimpArgs false
namespace Go.Proofs.Ytfbeepkogcmlmaa
open Go Go.RowKit
theorem j6 {a b:Bool} (h:a=b):Ending.returned (.bool a)=.returned (.bool b):=by rw[h]
section
variable {P:Program}
end
end Go.Proofs.Ytfbeepkogcmlmaa
