/-
  No cell of these rows narrows 'for every input' (looked for: loops, veiled, ifaces, maps, wideKeys, modest, calm, conditions, laid).
  DERIVED. THE GIVEN ROWS OF THIS SEAT. 8 by the template 'for every input the law returns true; each argument reads behind the call as it read before'; 0 by the template 'total and deterministic' (their statements: YtkabfefphdgppaaTotals.lean).
  GIVEN WITH THE SEED: the statements are not yours to turn. If you find one false, say at which input.
  Laid BY PROGRAM, IN A SANDBOX (cutbox-rows.mjs): the forced cells as the released guide's own fill.sh prints them over the translation 2c6cc3f0f3b1d72d… (all of the seat's roots in one cut). By AI agents, Wed Nov 11 2026. No macro, syntax, notation, axiom, sorry.
-/
import Derived.Test.YtkabfefphdgppaaChecked
import GoSem.Claim
import GoSem.ClaimJoined
import GoSem.ClaimMapViews
import Derived.JoinedTies
import Derived.KernelRfl
namespace Go.Proofs.Ytkabfefphdgppaa
/- THE CELL 'sum', in the pinned program and in every row, IS THE sha256 OF THE DUMP (.gsa) THAT YtkabfefphdgppaaProg.lean LOADS. Nothing in Lean hashes anything: it is a label: what it is worth is what the hold of that sum in a sandbox is worth. -/
noncomputable def Try.pinned : Pinned := { name := "ytkabfefphdgppaa", sum := "2c6cc3f0f3b1d72dde057b45e28f9e28e0c22e1128fbf8bd87118b8bea1333e4", checked := Try.checked }
namespace Rows
def none {H : Type} : Left H := { results := [], args := [] }

/-- 'accordionlaw16.FitOnes': WHATEVER THE INPUT: true; the input reads as it did. -/
def fitOnesSpec : ChangeSpec := { name := "fitOnes", fn := fun _ => fun
  | [d1, d2, d3] => { results := [.lit (.bool true)], args := [d1, d2, d3] }
  | _ => none }
def fitOnesRow : OpenClaim := { program := "ytkabfefphdgppaa", sum := "2c6cc3f0f3b1d72dde057b45e28f9e28e0c22e1128fbf8bd87118b8bea1333e4", func := "accordion/accordionlaw16.FitOnes", spec := "fitOnes", unfollowed := true, recurses := true, apart := false }
def FitOnesSaid : Prop := fitOnesRow.holds Try.pinned (OpenSpec.ofChange fitOnesSpec)

/-- ITS FALSE NEIGHBOUR: 'it returns false'. Refute it at one input. -/
def fitOnesWrong : ChangeSpec := { name := "fitOnes", fn := fun _ => fun
  | [d1, d2, d3] => { results := [.lit (.bool false)], args := [d1, d2, d3] }
  | _ => none }
def FitOnesWrongFalsely : Prop := fitOnesRow.holds Try.pinned (OpenSpec.ofChange fitOnesWrong)

/-- 'accordionlaw16.FitAlls': WHATEVER THE INPUT: true; the input reads as it did. -/
def fitAllsSpec : ChangeSpec := { name := "fitAlls", fn := fun _ => fun
  | [d1, d2, d3] => { results := [.lit (.bool true)], args := [d1, d2, d3] }
  | _ => none }
def fitAllsRow : OpenClaim := { program := "ytkabfefphdgppaa", sum := "2c6cc3f0f3b1d72dde057b45e28f9e28e0c22e1128fbf8bd87118b8bea1333e4", func := "accordion/accordionlaw16.FitAlls", spec := "fitAlls", unfollowed := true, recurses := true, apart := false }
def FitAllsSaid : Prop := fitAllsRow.holds Try.pinned (OpenSpec.ofChange fitAllsSpec)

/-- ITS FALSE NEIGHBOUR: 'it returns false'. Refute it at one input. -/
def fitAllsWrong : ChangeSpec := { name := "fitAlls", fn := fun _ => fun
  | [d1, d2, d3] => { results := [.lit (.bool false)], args := [d1, d2, d3] }
  | _ => none }
def FitAllsWrongFalsely : Prop := fitAllsRow.holds Try.pinned (OpenSpec.ofChange fitAllsWrong)

/-- 'accordionlaw16.FitLeast': WHATEVER THE INPUT: true; the input reads as it did. -/
def fitLeastSpec : ChangeSpec := { name := "fitLeast", fn := fun _ => fun
  | [d1, d2, d3] => { results := [.lit (.bool true)], args := [d1, d2, d3] }
  | _ => none }
def fitLeastRow : OpenClaim := { program := "ytkabfefphdgppaa", sum := "2c6cc3f0f3b1d72dde057b45e28f9e28e0c22e1128fbf8bd87118b8bea1333e4", func := "accordion/accordionlaw16.FitLeast", spec := "fitLeast", unfollowed := true, recurses := true, apart := false }
def FitLeastSaid : Prop := fitLeastRow.holds Try.pinned (OpenSpec.ofChange fitLeastSpec)

/-- ITS FALSE NEIGHBOUR: 'it returns false'. Refute it at one input. -/
def fitLeastWrong : ChangeSpec := { name := "fitLeast", fn := fun _ => fun
  | [d1, d2, d3] => { results := [.lit (.bool false)], args := [d1, d2, d3] }
  | _ => none }
def FitLeastWrongFalsely : Prop := fitLeastRow.holds Try.pinned (OpenSpec.ofChange fitLeastWrong)

/-- 'accordionlaw16.FitGrows': WHATEVER THE INPUT: true; the input reads as it did. -/
def fitGrowsSpec : ChangeSpec := { name := "fitGrows", fn := fun _ => fun
  | [d1, d2, d3] => { results := [.lit (.bool true)], args := [d1, d2, d3] }
  | _ => none }
def fitGrowsRow : OpenClaim := { program := "ytkabfefphdgppaa", sum := "2c6cc3f0f3b1d72dde057b45e28f9e28e0c22e1128fbf8bd87118b8bea1333e4", func := "accordion/accordionlaw16.FitGrows", spec := "fitGrows", unfollowed := true, recurses := true, apart := false }
def FitGrowsSaid : Prop := fitGrowsRow.holds Try.pinned (OpenSpec.ofChange fitGrowsSpec)

/-- ITS FALSE NEIGHBOUR: 'it returns false'. Refute it at one input. -/
def fitGrowsWrong : ChangeSpec := { name := "fitGrows", fn := fun _ => fun
  | [d1, d2, d3] => { results := [.lit (.bool false)], args := [d1, d2, d3] }
  | _ => none }
def FitGrowsWrongFalsely : Prop := fitGrowsRow.holds Try.pinned (OpenSpec.ofChange fitGrowsWrong)

/-- 'accordionlaw16.FitJoined': WHATEVER THE INPUT: true; the input reads as it did. -/
def fitJoinedSpec : ChangeSpec := { name := "fitJoined", fn := fun _ => fun
  | [d1, d2, d3] => { results := [.lit (.bool true)], args := [d1, d2, d3] }
  | _ => none }
def fitJoinedRow : OpenClaim := { program := "ytkabfefphdgppaa", sum := "2c6cc3f0f3b1d72dde057b45e28f9e28e0c22e1128fbf8bd87118b8bea1333e4", func := "accordion/accordionlaw16.FitJoined", spec := "fitJoined", unfollowed := true, recurses := true, apart := false }
def FitJoinedSaid : Prop := fitJoinedRow.holds Try.pinned (OpenSpec.ofChange fitJoinedSpec)

/-- ITS FALSE NEIGHBOUR: 'it returns false'. Refute it at one input. -/
def fitJoinedWrong : ChangeSpec := { name := "fitJoined", fn := fun _ => fun
  | [d1, d2, d3] => { results := [.lit (.bool false)], args := [d1, d2, d3] }
  | _ => none }
def FitJoinedWrongFalsely : Prop := fitJoinedRow.holds Try.pinned (OpenSpec.ofChange fitJoinedWrong)

/-- 'accordionlaw16.FitMore': WHATEVER THE INPUT: true; the input reads as it did. -/
def fitMoreSpec : ChangeSpec := { name := "fitMore", fn := fun _ => fun
  | [d1, d2, d3] => { results := [.lit (.bool true)], args := [d1, d2, d3] }
  | _ => none }
def fitMoreRow : OpenClaim := { program := "ytkabfefphdgppaa", sum := "2c6cc3f0f3b1d72dde057b45e28f9e28e0c22e1128fbf8bd87118b8bea1333e4", func := "accordion/accordionlaw16.FitMore", spec := "fitMore", unfollowed := true, recurses := true, apart := false }
def FitMoreSaid : Prop := fitMoreRow.holds Try.pinned (OpenSpec.ofChange fitMoreSpec)

/-- ITS FALSE NEIGHBOUR: 'it returns false'. Refute it at one input. -/
def fitMoreWrong : ChangeSpec := { name := "fitMore", fn := fun _ => fun
  | [d1, d2, d3] => { results := [.lit (.bool false)], args := [d1, d2, d3] }
  | _ => none }
def FitMoreWrongFalsely : Prop := fitMoreRow.holds Try.pinned (OpenSpec.ofChange fitMoreWrong)

/-- 'accordionlaw16.FitNearer': WHATEVER THE INPUT: true; the input reads as it did. -/
def fitNearerSpec : ChangeSpec := { name := "fitNearer", fn := fun _ => fun
  | [d1, d2, d3] => { results := [.lit (.bool true)], args := [d1, d2, d3] }
  | _ => none }
def fitNearerRow : OpenClaim := { program := "ytkabfefphdgppaa", sum := "2c6cc3f0f3b1d72dde057b45e28f9e28e0c22e1128fbf8bd87118b8bea1333e4", func := "accordion/accordionlaw16.FitNearer", spec := "fitNearer", unfollowed := true, recurses := true, apart := false }
def FitNearerSaid : Prop := fitNearerRow.holds Try.pinned (OpenSpec.ofChange fitNearerSpec)

/-- ITS FALSE NEIGHBOUR: 'it returns false'. Refute it at one input. -/
def fitNearerWrong : ChangeSpec := { name := "fitNearer", fn := fun _ => fun
  | [d1, d2, d3] => { results := [.lit (.bool false)], args := [d1, d2, d3] }
  | _ => none }
def FitNearerWrongFalsely : Prop := fitNearerRow.holds Try.pinned (OpenSpec.ofChange fitNearerWrong)

/-- 'accordionlaw16.FitKnown': WHATEVER THE INPUT: true; the input reads as it did. -/
def fitKnownSpec : ChangeSpec := { name := "fitKnown", fn := fun _ => fun
  | [] => { results := [.lit (.bool true)], args := [] }
  | _ => none }
def fitKnownRow : OpenClaim := { program := "ytkabfefphdgppaa", sum := "2c6cc3f0f3b1d72dde057b45e28f9e28e0c22e1128fbf8bd87118b8bea1333e4", func := "accordion/accordionlaw16.FitKnown", spec := "fitKnown", unfollowed := true, recurses := true, apart := false }
def FitKnownSaid : Prop := fitKnownRow.holds Try.pinned (OpenSpec.ofChange fitKnownSpec)

/-- ITS FALSE NEIGHBOUR: 'it returns false'. Refute it at one input. -/
def fitKnownWrong : ChangeSpec := { name := "fitKnown", fn := fun _ => fun
  | [] => { results := [.lit (.bool false)], args := [] }
  | _ => none }
def FitKnownWrongFalsely : Prop := fitKnownRow.holds Try.pinned (OpenSpec.ofChange fitKnownWrong)

/- THE SECOND FORM. 'bulk': how many values and letters a reading holds, each counted each time it is reached (what is shared counts as often as it is met; a slice's spare places count too). A statement '..UptoSaid' is the law's where the arguments, and the package variables that the reading takes, are together of bulk at most 1048576: NARROWER than '..Said'. Prove '..Said' where nothing that the law and all that it calls make is longer than what came in: it says more and counts as full. Else prove '..UptoSaid'. A law counts once. -/
mutual
def uptoBulk {H : Type} : DataW H → Nat
  | .lit (.string bytes) => bytes.length + 1
  | .lit _ => 1
  | .nil => 1
  | .ptr d => uptoBulk d + 1
  | .slice elems spare => uptoBulkAll elems + uptoBulkAll spare + 1
  | .agg parts => uptoBulkAll parts + 1
  | .iface _ d => uptoBulk d + 1
  | .map entries => uptoBulkEntries entries + 1
  | .held _ => 1
def uptoBulkAll {H : Type} : List (DataW H) → Nat
  | [] => 0
  | d :: r => uptoBulk d + uptoBulkAll r
def uptoBulkEntries {H : Type} : List (Lit × DataW H) → Nat
  | [] => 0
  | x :: r => uptoBulkEntry x + uptoBulkEntries r
def uptoBulkEntry {H : Type} : Lit × DataW H → Nat
  | (.string bytes, d) => bytes.length + uptoBulk d + 1
  | (_, d) => uptoBulk d + 1
 end
def uptoSmall : (H : Type) → List (DataW H) → Bool := fun _ ds => decide (uptoBulkAll ds ≤ 1048576)
def OpenSpec.upto (s : _root_.Go.ChangeSpec) : _root_.Go.OpenSpec := { _root_.Go.OpenSpec.ofChange s with cond := some uptoSmall }

/-- 'accordionlaw16.FitOnes', WHERE WHAT IT READS IS OF BULK AT MOST 1048576: true; the input reads as it did. -/
def fitOnesUptoRow : OpenClaim := { program := "ytkabfefphdgppaa", sum := "2c6cc3f0f3b1d72dde057b45e28f9e28e0c22e1128fbf8bd87118b8bea1333e4", func := "accordion/accordionlaw16.FitOnes", spec := "fitOnes", unfollowed := true, recurses := true, apart := false, narrowed := true }
def FitOnesUptoSaid : Prop := fitOnesUptoRow.holds Try.pinned (OpenSpec.upto fitOnesSpec)

/-- 'accordionlaw16.FitAlls', WHERE WHAT IT READS IS OF BULK AT MOST 1048576: true; the input reads as it did. -/
def fitAllsUptoRow : OpenClaim := { program := "ytkabfefphdgppaa", sum := "2c6cc3f0f3b1d72dde057b45e28f9e28e0c22e1128fbf8bd87118b8bea1333e4", func := "accordion/accordionlaw16.FitAlls", spec := "fitAlls", unfollowed := true, recurses := true, apart := false, narrowed := true }
def FitAllsUptoSaid : Prop := fitAllsUptoRow.holds Try.pinned (OpenSpec.upto fitAllsSpec)

/-- 'accordionlaw16.FitLeast', WHERE WHAT IT READS IS OF BULK AT MOST 1048576: true; the input reads as it did. -/
def fitLeastUptoRow : OpenClaim := { program := "ytkabfefphdgppaa", sum := "2c6cc3f0f3b1d72dde057b45e28f9e28e0c22e1128fbf8bd87118b8bea1333e4", func := "accordion/accordionlaw16.FitLeast", spec := "fitLeast", unfollowed := true, recurses := true, apart := false, narrowed := true }
def FitLeastUptoSaid : Prop := fitLeastUptoRow.holds Try.pinned (OpenSpec.upto fitLeastSpec)

/-- 'accordionlaw16.FitGrows', WHERE WHAT IT READS IS OF BULK AT MOST 1048576: true; the input reads as it did. -/
def fitGrowsUptoRow : OpenClaim := { program := "ytkabfefphdgppaa", sum := "2c6cc3f0f3b1d72dde057b45e28f9e28e0c22e1128fbf8bd87118b8bea1333e4", func := "accordion/accordionlaw16.FitGrows", spec := "fitGrows", unfollowed := true, recurses := true, apart := false, narrowed := true }
def FitGrowsUptoSaid : Prop := fitGrowsUptoRow.holds Try.pinned (OpenSpec.upto fitGrowsSpec)

/-- 'accordionlaw16.FitJoined', WHERE WHAT IT READS IS OF BULK AT MOST 1048576: true; the input reads as it did. -/
def fitJoinedUptoRow : OpenClaim := { program := "ytkabfefphdgppaa", sum := "2c6cc3f0f3b1d72dde057b45e28f9e28e0c22e1128fbf8bd87118b8bea1333e4", func := "accordion/accordionlaw16.FitJoined", spec := "fitJoined", unfollowed := true, recurses := true, apart := false, narrowed := true }
def FitJoinedUptoSaid : Prop := fitJoinedUptoRow.holds Try.pinned (OpenSpec.upto fitJoinedSpec)

/-- 'accordionlaw16.FitMore', WHERE WHAT IT READS IS OF BULK AT MOST 1048576: true; the input reads as it did. -/
def fitMoreUptoRow : OpenClaim := { program := "ytkabfefphdgppaa", sum := "2c6cc3f0f3b1d72dde057b45e28f9e28e0c22e1128fbf8bd87118b8bea1333e4", func := "accordion/accordionlaw16.FitMore", spec := "fitMore", unfollowed := true, recurses := true, apart := false, narrowed := true }
def FitMoreUptoSaid : Prop := fitMoreUptoRow.holds Try.pinned (OpenSpec.upto fitMoreSpec)

/-- 'accordionlaw16.FitNearer', WHERE WHAT IT READS IS OF BULK AT MOST 1048576: true; the input reads as it did. -/
def fitNearerUptoRow : OpenClaim := { program := "ytkabfefphdgppaa", sum := "2c6cc3f0f3b1d72dde057b45e28f9e28e0c22e1128fbf8bd87118b8bea1333e4", func := "accordion/accordionlaw16.FitNearer", spec := "fitNearer", unfollowed := true, recurses := true, apart := false, narrowed := true }
def FitNearerUptoSaid : Prop := fitNearerUptoRow.holds Try.pinned (OpenSpec.upto fitNearerSpec)

/-- 'accordionlaw16.FitKnown', WHERE WHAT IT READS IS OF BULK AT MOST 1048576: true; the input reads as it did. -/
def fitKnownUptoRow : OpenClaim := { program := "ytkabfefphdgppaa", sum := "2c6cc3f0f3b1d72dde057b45e28f9e28e0c22e1128fbf8bd87118b8bea1333e4", func := "accordion/accordionlaw16.FitKnown", spec := "fitKnown", unfollowed := true, recurses := true, apart := false, narrowed := true }
def FitKnownUptoSaid : Prop := fitKnownUptoRow.holds Try.pinned (OpenSpec.upto fitKnownSpec)

end Rows
end Go.Proofs.Ytkabfefphdgppaa
