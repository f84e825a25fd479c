/-
  Texts of the proof.
-/
import Derived.Test.YtjnpcddbgfmpcaaGreatDoorBMapsPAH
import Derived.Test.YtjnpcddbgfmpcaaGreatDoorBMapsPBC
set_option linter.unusedVariables false
set_option linter.unusedSimpArgs false
namespace Go.Proofs.YtjnpcddbgfmpcaaGreatDoor
open Go Go.ChangeShapes Go.WideShapes Go.ChangeAt Go.RowKit Go.Joins
theorem bM (i n:Int) (w:World) (hn:0 < n) (hn2:n≤1099511627776):Calls Tryz.prog 8 #[.int .i64 i,.int .i64 n] w fun r w'=>r=.returned (.int .i64 (i % n))∧w'=w:=by
 obtain⟨b1,b2,b3,b4⟩:=hZ i n hn
 have B1:=zh b1
 have B2:=zh b2
 clear b1 b2
 go_enter Tryz.func8,Tryz.ntmps8
 go_wp2
 ·go_ret
  refine⟨qA ?_,rfl⟩
  exact B1.out (by assumption)
 ·go_ret
  exact⟨qA (B2.out (by assumption)),rfl⟩
end Go.Proofs.YtjnpcddbgfmpcaaGreatDoor
