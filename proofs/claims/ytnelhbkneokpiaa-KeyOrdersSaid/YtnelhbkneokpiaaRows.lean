/-
  NARROWER THAN 'FOR EVERY INPUT', by the rows' own cells (each row's printed sentence says how): KeySorts: loops · KeyMaps: loops.
  DERIVED. THE GIVEN ROWS OF THIS SEAT. 7 by the template 'for every input the law returns true; each argument reads behind the call as it read before'; 0 by the template 'total and deterministic' (their statements: YtnelhbkneokpiaaTotals.lean).
  GIVEN WITH THE SEED: the statements are not yours to turn. If you find one false, say at which input.
  Laid BY PROGRAM, IN A SANDBOX (cutbox-rows.mjs): the forced cells as the released guide's own fill.sh prints them over the translation 6b2ba3d4db537895… (all of the seat's roots in one cut). By AI agents, Wed Nov 11 2026. No macro, syntax, notation, axiom, sorry.
-/
import Derived.Test.YtnelhbkneokpiaaChecked
import GoSem.Claim
import GoSem.ClaimJoined
import GoSem.ClaimMapViews
import Derived.JoinedTies
import Derived.KernelRfl
namespace Go.Proofs.Ytnelhbkneokpiaa
/- THE CELL 'sum', in the pinned program and in every row, IS THE sha256 OF THE DUMP (.gsa) THAT YtnelhbkneokpiaaProg.lean LOADS. Nothing in Lean hashes anything: it is a label: what it is worth is what the hold of that sum in a sandbox is worth. -/
noncomputable def Try.pinned : Pinned := { name := "ytnelhbkneokpiaa", sum := "6b2ba3d4db537895e736aa7c35e75333ebafaa23df95265fb207ef477363d3ca", checked := Try.checked }
namespace Rows
def none {H : Type} : Left H := { results := [], args := [] }

/-- 'accordionlaw07.KeyOrders': WHATEVER THE INPUT: true; the input reads as it did. -/
def keyOrdersSpec : ChangeSpec := { name := "keyOrders", fn := fun _ => fun
  | [d1, d2, d3] => { results := [.lit (.bool true)], args := [d1, d2, d3] }
  | _ => none }
def keyOrdersRow : OpenClaim := { program := "ytnelhbkneokpiaa", sum := "6b2ba3d4db537895e736aa7c35e75333ebafaa23df95265fb207ef477363d3ca", func := "accordion/accordionlaw07.KeyOrders", spec := "keyOrders", inPlace := ["internal/bytealg.abigen_runtime_cmpstring", "internal/bytealg.IndexByteString"], unfollowed := true, recurses := true, apart := false }
def KeyOrdersSaid : Prop := keyOrdersRow.holds Try.pinned (OpenSpec.ofChange keyOrdersSpec)

/-- ITS FALSE NEIGHBOUR: 'it returns false'. Refute it at one input. -/
def keyOrdersWrong : ChangeSpec := { name := "keyOrders", fn := fun _ => fun
  | [d1, d2, d3] => { results := [.lit (.bool false)], args := [d1, d2, d3] }
  | _ => none }
def KeyOrdersWrongFalsely : Prop := keyOrdersRow.holds Try.pinned (OpenSpec.ofChange keyOrdersWrong)

/-- 'accordionlaw07.KeyFinds': WHATEVER THE INPUT: true; the input reads as it did. -/
def keyFindsSpec : ChangeSpec := { name := "keyFinds", fn := fun _ => fun
  | [d1, d2] => { results := [.lit (.bool true)], args := [d1, d2] }
  | _ => none }
def keyFindsRow : OpenClaim := { program := "ytnelhbkneokpiaa", sum := "6b2ba3d4db537895e736aa7c35e75333ebafaa23df95265fb207ef477363d3ca", func := "accordion/accordionlaw07.KeyFinds", spec := "keyFinds", inPlace := ["internal/bytealg.IndexByteString", "internal/bytealg.abigen_runtime_cmpstring"], unfollowed := true, recurses := true, apart := false }
def KeyFindsSaid : Prop := keyFindsRow.holds Try.pinned (OpenSpec.ofChange keyFindsSpec)

/-- ITS FALSE NEIGHBOUR: 'it returns false'. Refute it at one input. -/
def keyFindsWrong : ChangeSpec := { name := "keyFinds", fn := fun _ => fun
  | [d1, d2] => { results := [.lit (.bool false)], args := [d1, d2] }
  | _ => none }
def KeyFindsWrongFalsely : Prop := keyFindsRow.holds Try.pinned (OpenSpec.ofChange keyFindsWrong)

/-- 'accordionlaw07.KeySorts': WHATEVER THE INPUT: true; the input reads as it did. -/
def keySortsSpec : ChangeSpec := { name := "keySorts", fn := fun _ => fun
  | [d] => { results := [.lit (.bool true)], args := [d] }
  | _ => none }
def keySortsRow : OpenClaim := { program := "ytnelhbkneokpiaa", sum := "6b2ba3d4db537895e736aa7c35e75333ebafaa23df95265fb207ef477363d3ca", func := "accordion/accordionlaw07.KeySorts", spec := "keySorts", inPlace := ["internal/bytealg.IndexByteString", "internal/bytealg.abigen_runtime_cmpstring"], unfollowed := true, recurses := true, loops := true, apart := false }
def KeySortsSaid : Prop := keySortsRow.holds Try.pinned (OpenSpec.ofChange keySortsSpec)

/-- ITS FALSE NEIGHBOUR: 'it returns false'. Refute it at one input. -/
def keySortsWrong : ChangeSpec := { name := "keySorts", fn := fun _ => fun
  | [d] => { results := [.lit (.bool false)], args := [d] }
  | _ => none }
def KeySortsWrongFalsely : Prop := keySortsRow.holds Try.pinned (OpenSpec.ofChange keySortsWrong)

/-- 'accordionlaw07.KeyLess': WHATEVER THE INPUT: true; the input reads as it did. -/
def keyLessSpec : ChangeSpec := { name := "keyLess", fn := fun _ => fun
  | [d1, d2, d3] => { results := [.lit (.bool true)], args := [d1, d2, d3] }
  | _ => none }
def keyLessRow : OpenClaim := { program := "ytnelhbkneokpiaa", sum := "6b2ba3d4db537895e736aa7c35e75333ebafaa23df95265fb207ef477363d3ca", func := "accordion/accordionlaw07.KeyLess", spec := "keyLess", inPlace := ["internal/bytealg.IndexByteString", "internal/bytealg.abigen_runtime_cmpstring"], unfollowed := true, recurses := true, apart := false }
def KeyLessSaid : Prop := keyLessRow.holds Try.pinned (OpenSpec.ofChange keyLessSpec)

/-- ITS FALSE NEIGHBOUR: 'it returns false'. Refute it at one input. -/
def keyLessWrong : ChangeSpec := { name := "keyLess", fn := fun _ => fun
  | [d1, d2, d3] => { results := [.lit (.bool false)], args := [d1, d2, d3] }
  | _ => none }
def KeyLessWrongFalsely : Prop := keyLessRow.holds Try.pinned (OpenSpec.ofChange keyLessWrong)

/-- 'accordionlaw07.KeyRises': WHATEVER THE INPUT: true; the input reads as it did. -/
def keyRisesSpec : ChangeSpec := { name := "keyRises", fn := fun _ => fun
  | [d] => { results := [.lit (.bool true)], args := [d] }
  | _ => none }
def keyRisesRow : OpenClaim := { program := "ytnelhbkneokpiaa", sum := "6b2ba3d4db537895e736aa7c35e75333ebafaa23df95265fb207ef477363d3ca", func := "accordion/accordionlaw07.KeyRises", spec := "keyRises", inPlace := ["internal/bytealg.abigen_runtime_cmpstring", "internal/bytealg.IndexByteString"], unfollowed := true, recurses := true, apart := false }
def KeyRisesSaid : Prop := keyRisesRow.holds Try.pinned (OpenSpec.ofChange keyRisesSpec)

/-- ITS FALSE NEIGHBOUR: 'it returns false'. Refute it at one input. -/
def keyRisesWrong : ChangeSpec := { name := "keyRises", fn := fun _ => fun
  | [d] => { results := [.lit (.bool false)], args := [d] }
  | _ => none }
def KeyRisesWrongFalsely : Prop := keyRisesRow.holds Try.pinned (OpenSpec.ofChange keyRisesWrong)

/-- 'accordionlaw07.KeyHalves': WHATEVER THE INPUT: true; the input reads as it did. -/
def keyHalvesSpec : ChangeSpec := { name := "keyHalves", fn := fun _ => fun
  | [d1, d2] => { results := [.lit (.bool true)], args := [d1, d2] }
  | _ => none }
def keyHalvesRow : OpenClaim := { program := "ytnelhbkneokpiaa", sum := "6b2ba3d4db537895e736aa7c35e75333ebafaa23df95265fb207ef477363d3ca", func := "accordion/accordionlaw07.KeyHalves", spec := "keyHalves", inPlace := ["internal/bytealg.IndexByteString", "internal/bytealg.abigen_runtime_cmpstring"], unfollowed := true, recurses := true, apart := false }
def KeyHalvesSaid : Prop := keyHalvesRow.holds Try.pinned (OpenSpec.ofChange keyHalvesSpec)

/-- ITS FALSE NEIGHBOUR: 'it returns false'. Refute it at one input. -/
def keyHalvesWrong : ChangeSpec := { name := "keyHalves", fn := fun _ => fun
  | [d1, d2] => { results := [.lit (.bool false)], args := [d1, d2] }
  | _ => none }
def KeyHalvesWrongFalsely : Prop := keyHalvesRow.holds Try.pinned (OpenSpec.ofChange keyHalvesWrong)

/-- 'accordionlaw07.KeyMaps': WHATEVER THE INPUT: true; the input reads as it did. -/
def keyMapsSpec : ChangeSpec := { name := "keyMaps", fn := fun _ => fun
  | [d] => { results := [.lit (.bool true)], args := [d] }
  | _ => none }
def keyMapsRow : OpenClaim := { program := "ytnelhbkneokpiaa", sum := "6b2ba3d4db537895e736aa7c35e75333ebafaa23df95265fb207ef477363d3ca", func := "accordion/accordionlaw07.KeyMaps", spec := "keyMaps", inPlace := ["internal/bytealg.IndexByteString", "internal/bytealg.abigen_runtime_cmpstring"], unfollowed := true, recurses := true, loops := true, apart := false }
def KeyMapsSaid : Prop := keyMapsRow.holds Try.pinned (OpenSpec.ofChange keyMapsSpec)

/-- ITS FALSE NEIGHBOUR: 'it returns false'. Refute it at one input. -/
def keyMapsWrong : ChangeSpec := { name := "keyMaps", fn := fun _ => fun
  | [d] => { results := [.lit (.bool false)], args := [d] }
  | _ => none }
def KeyMapsWrongFalsely : Prop := keyMapsRow.holds Try.pinned (OpenSpec.ofChange keyMapsWrong)

/- THE SECOND FORM. 'bulk': how many values and letters a reading holds, each counted each time it is reached (what is shared counts as often as it is met; a slice's spare places count too). A statement '..UptoSaid' is the law's where the arguments, and the package variables that the reading takes, are together of bulk at most 1048576: NARROWER than '..Said'. Prove '..Said' where nothing that the law and all that it calls make is longer than what came in: it says more and counts as full. Else prove '..UptoSaid'. A law counts once. -/
mutual
def uptoBulk {H : Type} : DataW H → Nat
  | .lit (.string bytes) => bytes.length + 1
  | .lit _ => 1
  | .nil => 1
  | .ptr d => uptoBulk d + 1
  | .slice elems spare => uptoBulkAll elems + uptoBulkAll spare + 1
  | .agg parts => uptoBulkAll parts + 1
  | .iface _ d => uptoBulk d + 1
  | .map entries => uptoBulkEntries entries + 1
  | .held _ => 1
def uptoBulkAll {H : Type} : List (DataW H) → Nat
  | [] => 0
  | d :: r => uptoBulk d + uptoBulkAll r
def uptoBulkEntries {H : Type} : List (Lit × DataW H) → Nat
  | [] => 0
  | x :: r => uptoBulkEntry x + uptoBulkEntries r
def uptoBulkEntry {H : Type} : Lit × DataW H → Nat
  | (.string bytes, d) => bytes.length + uptoBulk d + 1
  | (_, d) => uptoBulk d + 1
 end
def uptoSmall : (H : Type) → List (DataW H) → Bool := fun _ ds => decide (uptoBulkAll ds ≤ 1048576)
def OpenSpec.upto (s : _root_.Go.ChangeSpec) : _root_.Go.OpenSpec := { _root_.Go.OpenSpec.ofChange s with cond := some uptoSmall }

/-- 'accordionlaw07.KeyOrders', WHERE WHAT IT READS IS OF BULK AT MOST 1048576: true; the input reads as it did. -/
def keyOrdersUptoRow : OpenClaim := { program := "ytnelhbkneokpiaa", sum := "6b2ba3d4db537895e736aa7c35e75333ebafaa23df95265fb207ef477363d3ca", func := "accordion/accordionlaw07.KeyOrders", spec := "keyOrders", inPlace := ["internal/bytealg.abigen_runtime_cmpstring", "internal/bytealg.IndexByteString"], unfollowed := true, recurses := true, apart := false, narrowed := true }
def KeyOrdersUptoSaid : Prop := keyOrdersUptoRow.holds Try.pinned (OpenSpec.upto keyOrdersSpec)

/-- 'accordionlaw07.KeyFinds', WHERE WHAT IT READS IS OF BULK AT MOST 1048576: true; the input reads as it did. -/
def keyFindsUptoRow : OpenClaim := { program := "ytnelhbkneokpiaa", sum := "6b2ba3d4db537895e736aa7c35e75333ebafaa23df95265fb207ef477363d3ca", func := "accordion/accordionlaw07.KeyFinds", spec := "keyFinds", inPlace := ["internal/bytealg.IndexByteString", "internal/bytealg.abigen_runtime_cmpstring"], unfollowed := true, recurses := true, apart := false, narrowed := true }
def KeyFindsUptoSaid : Prop := keyFindsUptoRow.holds Try.pinned (OpenSpec.upto keyFindsSpec)

/-- 'accordionlaw07.KeySorts', WHERE WHAT IT READS IS OF BULK AT MOST 1048576: true; the input reads as it did. -/
def keySortsUptoRow : OpenClaim := { program := "ytnelhbkneokpiaa", sum := "6b2ba3d4db537895e736aa7c35e75333ebafaa23df95265fb207ef477363d3ca", func := "accordion/accordionlaw07.KeySorts", spec := "keySorts", inPlace := ["internal/bytealg.IndexByteString", "internal/bytealg.abigen_runtime_cmpstring"], unfollowed := true, recurses := true, loops := true, apart := false, narrowed := true }
def KeySortsUptoSaid : Prop := keySortsUptoRow.holds Try.pinned (OpenSpec.upto keySortsSpec)

/-- 'accordionlaw07.KeyLess', WHERE WHAT IT READS IS OF BULK AT MOST 1048576: true; the input reads as it did. -/
def keyLessUptoRow : OpenClaim := { program := "ytnelhbkneokpiaa", sum := "6b2ba3d4db537895e736aa7c35e75333ebafaa23df95265fb207ef477363d3ca", func := "accordion/accordionlaw07.KeyLess", spec := "keyLess", inPlace := ["internal/bytealg.IndexByteString", "internal/bytealg.abigen_runtime_cmpstring"], unfollowed := true, recurses := true, apart := false, narrowed := true }
def KeyLessUptoSaid : Prop := keyLessUptoRow.holds Try.pinned (OpenSpec.upto keyLessSpec)

/-- 'accordionlaw07.KeyRises', WHERE WHAT IT READS IS OF BULK AT MOST 1048576: true; the input reads as it did. -/
def keyRisesUptoRow : OpenClaim := { program := "ytnelhbkneokpiaa", sum := "6b2ba3d4db537895e736aa7c35e75333ebafaa23df95265fb207ef477363d3ca", func := "accordion/accordionlaw07.KeyRises", spec := "keyRises", inPlace := ["internal/bytealg.abigen_runtime_cmpstring", "internal/bytealg.IndexByteString"], unfollowed := true, recurses := true, apart := false, narrowed := true }
def KeyRisesUptoSaid : Prop := keyRisesUptoRow.holds Try.pinned (OpenSpec.upto keyRisesSpec)

/-- 'accordionlaw07.KeyHalves', WHERE WHAT IT READS IS OF BULK AT MOST 1048576: true; the input reads as it did. -/
def keyHalvesUptoRow : OpenClaim := { program := "ytnelhbkneokpiaa", sum := "6b2ba3d4db537895e736aa7c35e75333ebafaa23df95265fb207ef477363d3ca", func := "accordion/accordionlaw07.KeyHalves", spec := "keyHalves", inPlace := ["internal/bytealg.IndexByteString", "internal/bytealg.abigen_runtime_cmpstring"], unfollowed := true, recurses := true, apart := false, narrowed := true }
def KeyHalvesUptoSaid : Prop := keyHalvesUptoRow.holds Try.pinned (OpenSpec.upto keyHalvesSpec)

/-- 'accordionlaw07.KeyMaps', WHERE WHAT IT READS IS OF BULK AT MOST 1048576: true; the input reads as it did. -/
def keyMapsUptoRow : OpenClaim := { program := "ytnelhbkneokpiaa", sum := "6b2ba3d4db537895e736aa7c35e75333ebafaa23df95265fb207ef477363d3ca", func := "accordion/accordionlaw07.KeyMaps", spec := "keyMaps", inPlace := ["internal/bytealg.IndexByteString", "internal/bytealg.abigen_runtime_cmpstring"], unfollowed := true, recurses := true, loops := true, apart := false, narrowed := true }
def KeyMapsUptoSaid : Prop := keyMapsUptoRow.holds Try.pinned (OpenSpec.upto keyMapsSpec)

end Rows
end Go.Proofs.Ytnelhbkneokpiaa
