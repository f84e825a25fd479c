/-
  Texts of the proof.
-/
import Derived.Test.YtdjoffgkndncfaaGreatEFlagsPBV
import Derived.Lib.SlBytesConst
set_option linter.unusedVariables false
set_option linter.unusedSimpArgs false
namespace Go.Proofs.YtdjoffgkndncfaaGreat
open Go Go.ChangeShapes Go.WideShapes Go.ChangeAt Go.RowKit Go.Joins Go.Deep
theorem ZN (k n u:Int) (s:ByteArray) (h:qH k∧qH n∧vT u∧kF s.size) (w:World):Nd (.mk k n u s [] []) (.agg #[.int .i64 k,.int .i64 n,.int .u64 u,.string s,.slice none 0 0,.slice none 0 0]) w:=
 ⟨h,_,_,[],rfl,zS.nil w,J7.nil w,by simp[yJ]⟩
theorem vecK_nd (k:Int) (hk:qH k) {l:List Tr} {lv:Value} {w:World} (h2:Rn l lv w):Nd (.mk k 0 0 ⟨#[]⟩ [] l) (.agg #[.int .i64 k,.int .i64 0,.int .u64 0,.string ⟨#[]⟩,.slice none 0 0,lv]) w:=by
 obtain⟨vs,h3,h4⟩:=h2
 exact⟨⟨hk,by unfold qH;omega,by unfold vT;omega,by unfold kF;decide⟩,_,lv,vs,rfl,zS.nil w,h3,h4⟩
def RnX (k:Nat) (ts:List Tr) (v:Value) (w:World):Prop:=(∃g,v=.slice (some ⟨g,0,none⟩) k k)∧Rn ts v w
theorem RnX.st (k:Nat) (ts:List Tr):∀v w w',jD w w'→RnX k ts v w→RnX k ts v w':=fun v w w' hg h=>⟨h.1,Rn.st _ v w w' hg h.2⟩
def SsX (k:Nat) (l:List ByteArray) (v:Value) (w:World):Prop:=(∃g,v=.slice (some ⟨g,0,none⟩) k k)∧Ss l v w
theorem SsX.st (k:Nat) (l:List ByteArray):∀v w w',jD w w'→SsX k l v w→SsX k l v w':=fun v w w' hg h=>⟨h.1,Ss.st _ v w w' hg h.2⟩
end Go.Proofs.YtdjoffgkndncfaaGreat
