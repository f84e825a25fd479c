/-Texts-/
import Derived.Test.YtdjoffgkndncfaaGreatDOtherPAG
import Derived.Test.YtdjoffgkndncfaaGreatDOtherPAZ
set_option linter.unusedVariables false
set_option linter.unusedSimpArgs false
namespace Go.Proofs.YtdjoffgkndncfaaGreat
open Go Go.ChangeShapes Go.WideShapes Go.ChangeAt Go.RowKit Go.Joins
theorem cU (i n:Int) (w:World) (hn:0 < n) (hn2:n≤1099511627776):Calls Tryz.prog 16 #[.int .i64 i,.int .i64 n] w λr w'=>r=.returned (.int .i64 (i % n))∧w'=w:=by
 obtain⟨b1,b2,b3,b4⟩:=wQ i n hn;have B1:=zh b1;have B2:=zh b2;clear b1 b2;go_enter Tryz.func16,Tryz.ntmps16;go_wp2
 ·go_ret;refine⟨K5 ?_,rfl⟩;exact B1.out (by assumption)
 go_ret;exact⟨K5 (B2.out (by assumption)),rfl⟩
end Go.Proofs.YtdjoffgkndncfaaGreat
