/-
  Texts of the proof.
-/
import Derived.Test.YtjnpcddbgfmpcaaGreatDoorBMapsPAL
import Derived.Test.YtjnpcddbgfmpcaaGreatDoorBMapsPAD
set_option linter.unusedVariables false
set_option linter.unusedSimpArgs false
namespace Go.Proofs.YtjnpcddbgfmpcaaGreatDoor
open Go Go.ChangeShapes Go.RowKit
abbrev SBF (B b:Nat) (bs:List Value) (w:World):Prop:=Lib.IsBuilderF 77 5 B b bs w
theorem lN (B b:Nat) (bs:List Value) (s:ByteArray) (w:World) (h:SBF B b bs w) (j8:bs.length+s.size≤140737488355328) (hBw:B≤w.heap.size) :
 Calls Tryz.prog 38 #[.pointer (some ⟨b,0,none⟩),.string s] w fun e w'=>e=.returned (.tuple #[.int .i64 s.size,.nilIface])∧SBF B b (bs++Lib.strCells s) w'∧Below B w w':=
 (Any.Builder_WriteString_k (P:=Tryz.prog) (ρ:=Tryz.lays155_ren) {Tryz.lays155 with} Tryz.Builder_Extra_155 B b bs s w h j8 hBw).mono fun e w' hr=>⟨hr.1,.inr hr.2.1,hr.2.2.1⟩
theorem gD (B b:Nat) (l:List UInt8) (w:World) (h:SBF B b (Lib.byteCells l) w) (hBw:B≤w.heap.size) :
 Calls Tryz.prog 40 #[.pointer (some ⟨b,0,none⟩)] w fun e w'=>e=.returned (.string ⟨l.toArray⟩)∧SBF B b (Lib.byteCells l) w'∧Below B w w'∧Lib.OthersKept 5 (some b) w w':=
 (Tryz.Builder_String_any_k B b l w h hBw).mono fun e w' hr=>⟨hr.1,hr.2.1,hr.2.2.1,hr.2.2.2⟩
end Go.Proofs.YtjnpcddbgfmpcaaGreatDoor
