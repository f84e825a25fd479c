/-
  NARROWER THAN 'FOR EVERY INPUT', by the rows' own cells (each row's printed sentence says how): DenoteHolds: loops · DenoteSays: loops · DenoteMoved: loops · DenoteOne: loops · DenoteSorted: loops.
  DERIVED. THE GIVEN ROWS OF THIS SEAT. 5 by the template 'for every input the law returns true; each argument reads behind the call as it read before'; 0 by the template 'total and deterministic' (their statements: YtlhliolknaopjaaTotals.lean).
  GIVEN WITH THE SEED: the statements are not yours to turn. If you find one false, say at which input.
  Laid BY PROGRAM, IN A SANDBOX (cutbox-rows.mjs): the forced cells as the released guide's own fill.sh prints them over the translation 3c88e25ac585061a… (all of the seat's roots in one cut). By AI agents, Wed Nov 11 2026. No macro, syntax, notation, axiom, sorry.
-/
import Derived.Test.YtlhliolknaopjaaChecked
import GoSem.Claim
import GoSem.ClaimJoined
import GoSem.ClaimMapViews
import Derived.JoinedTies
import Derived.KernelRfl
namespace Go.Proofs.Ytlhliolknaopjaa
/- THE CELL 'sum', in the pinned program and in every row, IS THE sha256 OF THE DUMP (.gsa) THAT YtlhliolknaopjaaProg.lean LOADS. Nothing in Lean hashes anything: it is a label: what it is worth is what the hold of that sum in a sandbox is worth. -/
noncomputable def Try.pinned : Pinned := { name := "ytlhliolknaopjaa", sum := "3c88e25ac585061abf287b967028420d25a8af0baed8335a453a2281014f25f8", checked := Try.checked }
namespace Rows
def none {H : Type} : Left H := { results := [], args := [] }

/-- 'accordionlaw27.DenoteHolds': WHATEVER THE INPUT: true; the input reads as it did. -/
def denoteHoldsSpec : ChangeSpec := { name := "denoteHolds", fn := fun _ => fun
  | [d1, d2] => { results := [.lit (.bool true)], args := [d1, d2] }
  | _ => none }
def denoteHoldsRow : OpenClaim := { program := "ytlhliolknaopjaa", sum := "3c88e25ac585061abf287b967028420d25a8af0baed8335a453a2281014f25f8", func := "accordion/accordionlaw27.DenoteHolds", spec := "denoteHolds", inPlace := ["internal/bytealg.IndexByteString"], unfollowed := true, recurses := true, loops := true, apart := false }
def DenoteHoldsSaid : Prop := denoteHoldsRow.holds Try.pinned (OpenSpec.ofChange denoteHoldsSpec)

/-- ITS FALSE NEIGHBOUR: 'it returns false'. Refute it at one input. -/
def denoteHoldsWrong : ChangeSpec := { name := "denoteHolds", fn := fun _ => fun
  | [d1, d2] => { results := [.lit (.bool false)], args := [d1, d2] }
  | _ => none }
def DenoteHoldsWrongFalsely : Prop := denoteHoldsRow.holds Try.pinned (OpenSpec.ofChange denoteHoldsWrong)

/-- 'accordionlaw27.DenoteSays': WHATEVER THE INPUT: true; the input reads as it did. -/
def denoteSaysSpec : ChangeSpec := { name := "denoteSays", fn := fun _ => fun
  | [d1, d2, d3] => { results := [.lit (.bool true)], args := [d1, d2, d3] }
  | _ => none }
def denoteSaysRow : OpenClaim := { program := "ytlhliolknaopjaa", sum := "3c88e25ac585061abf287b967028420d25a8af0baed8335a453a2281014f25f8", func := "accordion/accordionlaw27.DenoteSays", spec := "denoteSays", inPlace := ["internal/bytealg.IndexByteString"], unfollowed := true, recurses := true, loops := true, apart := false }
def DenoteSaysSaid : Prop := denoteSaysRow.holds Try.pinned (OpenSpec.ofChange denoteSaysSpec)

/-- ITS FALSE NEIGHBOUR: 'it returns false'. Refute it at one input. -/
def denoteSaysWrong : ChangeSpec := { name := "denoteSays", fn := fun _ => fun
  | [d1, d2, d3] => { results := [.lit (.bool false)], args := [d1, d2, d3] }
  | _ => none }
def DenoteSaysWrongFalsely : Prop := denoteSaysRow.holds Try.pinned (OpenSpec.ofChange denoteSaysWrong)

/-- 'accordionlaw27.DenoteMoved': WHATEVER THE INPUT: true; the input reads as it did. -/
def denoteMovedSpec : ChangeSpec := { name := "denoteMoved", fn := fun _ => fun
  | [d1, d2, d3] => { results := [.lit (.bool true)], args := [d1, d2, d3] }
  | _ => none }
def denoteMovedRow : OpenClaim := { program := "ytlhliolknaopjaa", sum := "3c88e25ac585061abf287b967028420d25a8af0baed8335a453a2281014f25f8", func := "accordion/accordionlaw27.DenoteMoved", spec := "denoteMoved", inPlace := ["internal/bytealg.IndexByteString"], unfollowed := true, recurses := true, loops := true, apart := false }
def DenoteMovedSaid : Prop := denoteMovedRow.holds Try.pinned (OpenSpec.ofChange denoteMovedSpec)

/-- ITS FALSE NEIGHBOUR: 'it returns false'. Refute it at one input. -/
def denoteMovedWrong : ChangeSpec := { name := "denoteMoved", fn := fun _ => fun
  | [d1, d2, d3] => { results := [.lit (.bool false)], args := [d1, d2, d3] }
  | _ => none }
def DenoteMovedWrongFalsely : Prop := denoteMovedRow.holds Try.pinned (OpenSpec.ofChange denoteMovedWrong)

/-- 'accordionlaw27.DenoteOne': WHATEVER THE INPUT: true; the input reads as it did. -/
def denoteOneSpec : ChangeSpec := { name := "denoteOne", fn := fun _ => fun
  | [d1, d2, d3] => { results := [.lit (.bool true)], args := [d1, d2, d3] }
  | _ => none }
def denoteOneRow : OpenClaim := { program := "ytlhliolknaopjaa", sum := "3c88e25ac585061abf287b967028420d25a8af0baed8335a453a2281014f25f8", func := "accordion/accordionlaw27.DenoteOne", spec := "denoteOne", inPlace := ["internal/bytealg.IndexByteString"], unfollowed := true, recurses := true, loops := true, apart := false }
def DenoteOneSaid : Prop := denoteOneRow.holds Try.pinned (OpenSpec.ofChange denoteOneSpec)

/-- ITS FALSE NEIGHBOUR: 'it returns false'. Refute it at one input. -/
def denoteOneWrong : ChangeSpec := { name := "denoteOne", fn := fun _ => fun
  | [d1, d2, d3] => { results := [.lit (.bool false)], args := [d1, d2, d3] }
  | _ => none }
def DenoteOneWrongFalsely : Prop := denoteOneRow.holds Try.pinned (OpenSpec.ofChange denoteOneWrong)

/-- 'accordionlaw27.DenoteSorted': WHATEVER THE INPUT: true; the input reads as it did. -/
def denoteSortedSpec : ChangeSpec := { name := "denoteSorted", fn := fun _ => fun
  | [d1, d2] => { results := [.lit (.bool true)], args := [d1, d2] }
  | _ => none }
def denoteSortedRow : OpenClaim := { program := "ytlhliolknaopjaa", sum := "3c88e25ac585061abf287b967028420d25a8af0baed8335a453a2281014f25f8", func := "accordion/accordionlaw27.DenoteSorted", spec := "denoteSorted", inPlace := ["internal/bytealg.IndexByteString", "internal/bytealg.abigen_runtime_cmpstring"], unfollowed := true, recurses := true, loops := true, apart := false }
def DenoteSortedSaid : Prop := denoteSortedRow.holds Try.pinned (OpenSpec.ofChange denoteSortedSpec)

/-- ITS FALSE NEIGHBOUR: 'it returns false'. Refute it at one input. -/
def denoteSortedWrong : ChangeSpec := { name := "denoteSorted", fn := fun _ => fun
  | [d1, d2] => { results := [.lit (.bool false)], args := [d1, d2] }
  | _ => none }
def DenoteSortedWrongFalsely : Prop := denoteSortedRow.holds Try.pinned (OpenSpec.ofChange denoteSortedWrong)

/- THE SECOND FORM. 'bulk': how many values and letters a reading holds, each counted each time it is reached (what is shared counts as often as it is met; a slice's spare places count too). A statement '..UptoSaid' is the law's where the arguments, and the package variables that the reading takes, are together of bulk at most 1048576: NARROWER than '..Said'. Prove '..Said' where nothing that the law and all that it calls make is longer than what came in: it says more and counts as full. Else prove '..UptoSaid'. A law counts once. -/
mutual
def uptoBulk {H : Type} : DataW H → Nat
  | .lit (.string bytes) => bytes.length + 1
  | .lit _ => 1
  | .nil => 1
  | .ptr d => uptoBulk d + 1
  | .slice elems spare => uptoBulkAll elems + uptoBulkAll spare + 1
  | .agg parts => uptoBulkAll parts + 1
  | .iface _ d => uptoBulk d + 1
  | .map entries => uptoBulkEntries entries + 1
  | .held _ => 1
def uptoBulkAll {H : Type} : List (DataW H) → Nat
  | [] => 0
  | d :: r => uptoBulk d + uptoBulkAll r
def uptoBulkEntries {H : Type} : List (Lit × DataW H) → Nat
  | [] => 0
  | x :: r => uptoBulkEntry x + uptoBulkEntries r
def uptoBulkEntry {H : Type} : Lit × DataW H → Nat
  | (.string bytes, d) => bytes.length + uptoBulk d + 1
  | (_, d) => uptoBulk d + 1
 end
def uptoSmall : (H : Type) → List (DataW H) → Bool := fun _ ds => decide (uptoBulkAll ds ≤ 1048576)
def OpenSpec.upto (s : _root_.Go.ChangeSpec) : _root_.Go.OpenSpec := { _root_.Go.OpenSpec.ofChange s with cond := some uptoSmall }

/-- 'accordionlaw27.DenoteHolds', WHERE WHAT IT READS IS OF BULK AT MOST 1048576: true; the input reads as it did. -/
def denoteHoldsUptoRow : OpenClaim := { program := "ytlhliolknaopjaa", sum := "3c88e25ac585061abf287b967028420d25a8af0baed8335a453a2281014f25f8", func := "accordion/accordionlaw27.DenoteHolds", spec := "denoteHolds", inPlace := ["internal/bytealg.IndexByteString"], unfollowed := true, recurses := true, loops := true, apart := false, narrowed := true }
def DenoteHoldsUptoSaid : Prop := denoteHoldsUptoRow.holds Try.pinned (OpenSpec.upto denoteHoldsSpec)

/-- 'accordionlaw27.DenoteSays', WHERE WHAT IT READS IS OF BULK AT MOST 1048576: true; the input reads as it did. -/
def denoteSaysUptoRow : OpenClaim := { program := "ytlhliolknaopjaa", sum := "3c88e25ac585061abf287b967028420d25a8af0baed8335a453a2281014f25f8", func := "accordion/accordionlaw27.DenoteSays", spec := "denoteSays", inPlace := ["internal/bytealg.IndexByteString"], unfollowed := true, recurses := true, loops := true, apart := false, narrowed := true }
def DenoteSaysUptoSaid : Prop := denoteSaysUptoRow.holds Try.pinned (OpenSpec.upto denoteSaysSpec)

/-- 'accordionlaw27.DenoteMoved', WHERE WHAT IT READS IS OF BULK AT MOST 1048576: true; the input reads as it did. -/
def denoteMovedUptoRow : OpenClaim := { program := "ytlhliolknaopjaa", sum := "3c88e25ac585061abf287b967028420d25a8af0baed8335a453a2281014f25f8", func := "accordion/accordionlaw27.DenoteMoved", spec := "denoteMoved", inPlace := ["internal/bytealg.IndexByteString"], unfollowed := true, recurses := true, loops := true, apart := false, narrowed := true }
def DenoteMovedUptoSaid : Prop := denoteMovedUptoRow.holds Try.pinned (OpenSpec.upto denoteMovedSpec)

/-- 'accordionlaw27.DenoteOne', WHERE WHAT IT READS IS OF BULK AT MOST 1048576: true; the input reads as it did. -/
def denoteOneUptoRow : OpenClaim := { program := "ytlhliolknaopjaa", sum := "3c88e25ac585061abf287b967028420d25a8af0baed8335a453a2281014f25f8", func := "accordion/accordionlaw27.DenoteOne", spec := "denoteOne", inPlace := ["internal/bytealg.IndexByteString"], unfollowed := true, recurses := true, loops := true, apart := false, narrowed := true }
def DenoteOneUptoSaid : Prop := denoteOneUptoRow.holds Try.pinned (OpenSpec.upto denoteOneSpec)

/-- 'accordionlaw27.DenoteSorted', WHERE WHAT IT READS IS OF BULK AT MOST 1048576: true; the input reads as it did. -/
def denoteSortedUptoRow : OpenClaim := { program := "ytlhliolknaopjaa", sum := "3c88e25ac585061abf287b967028420d25a8af0baed8335a453a2281014f25f8", func := "accordion/accordionlaw27.DenoteSorted", spec := "denoteSorted", inPlace := ["internal/bytealg.IndexByteString", "internal/bytealg.abigen_runtime_cmpstring"], unfollowed := true, recurses := true, loops := true, apart := false, narrowed := true }
def DenoteSortedUptoSaid : Prop := denoteSortedUptoRow.holds Try.pinned (OpenSpec.upto denoteSortedSpec)

end Rows
end Go.Proofs.Ytlhliolknaopjaa
