/-
  No cell of these rows narrows 'for every input' (looked for: loops, veiled, ifaces, maps, wideKeys, modest, calm, conditions, laid).
  DERIVED. THE GIVEN ROWS OF THIS SEAT. 5 by the template 'for every input the law returns true; each argument reads behind the call as it read before'; 0 by the template 'total and deterministic' (their statements: YtjnpcddbgfmpcaaGreatTotals.lean).
  GIVEN WITH THE SEED: the statements are not yours to turn. If you find one false, say at which input.
  Laid BY PROGRAM, IN A SANDBOX (cutbox-rows.mjs): the forced cells as the released guide's own fill.sh prints them over the translation 6c957c2364a6ad9e… (all of the seat's roots in one cut). By AI agents, Wed Nov 11 2026. No macro, syntax, notation, axiom, sorry.
-/
import Derived.Test.YtjnpcddbgfmpcaaGreatChecked
import GoSem.Claim
import GoSem.ClaimJoined
import GoSem.ClaimMapViews
import Derived.JoinedTies
import Derived.KernelRfl
namespace Go.Proofs.YtjnpcddbgfmpcaaGreat
/- THE CELL 'sum', in the pinned program and in every row, IS THE sha256 OF THE DUMP (.gsa) THAT YtjnpcddbgfmpcaaGreatProg.lean LOADS. Nothing in Lean hashes anything: it is a label: what it is worth is what the hold of that sum in a sandbox is worth. -/
noncomputable def Tryz.pinned : Pinned := { name := "ytjnpcddbgfmpcaagreat", sum := "6c957c2364a6ad9e1744ebf11cfba52874941b95006b1f347f136c1d2bcc0261", checked := Tryz.checked }
namespace Rows
def none {H : Type} : Left H := { results := [], args := [] }

/-- 'accordionlaw19.BuildStops': WHATEVER THE INPUT: true; the input reads as it did. -/
def buildStopsSpec : ChangeSpec := { name := "buildStops", fn := fun _ => fun
  | [d1, d2, d3] => { results := [.lit (.bool true)], args := [d1, d2, d3] }
  | _ => none }
def buildStopsRow : OpenClaim := { program := "ytjnpcddbgfmpcaagreat", sum := "6c957c2364a6ad9e1744ebf11cfba52874941b95006b1f347f136c1d2bcc0261", func := "accordion/accordionlaw19.BuildStops", spec := "buildStops", inPlace := ["internal/bytealg.IndexByteString", "internal/bytealg.abigen_runtime_cmpstring", "internal/abi.NoEscape"], unfollowed := true, recurses := true, plainKeys := false, apart := false }
def BuildStopsSaid : Prop := buildStopsRow.holds Tryz.pinned (OpenSpec.ofChange buildStopsSpec)

/-- ITS FALSE NEIGHBOUR: 'it returns false'. Refute it at one input. -/
def buildStopsWrong : ChangeSpec := { name := "buildStops", fn := fun _ => fun
  | [d1, d2, d3] => { results := [.lit (.bool false)], args := [d1, d2, d3] }
  | _ => none }
def BuildStopsWrongFalsely : Prop := buildStopsRow.holds Tryz.pinned (OpenSpec.ofChange buildStopsWrong)

/-- 'accordionlaw19.BuildAgain': WHATEVER THE INPUT: true; the input reads as it did. -/
def buildAgainSpec : ChangeSpec := { name := "buildAgain", fn := fun _ => fun
  | [d] => { results := [.lit (.bool true)], args := [d] }
  | _ => none }
def buildAgainRow : OpenClaim := { program := "ytjnpcddbgfmpcaagreat", sum := "6c957c2364a6ad9e1744ebf11cfba52874941b95006b1f347f136c1d2bcc0261", func := "accordion/accordionlaw19.BuildAgain", spec := "buildAgain", inPlace := ["internal/bytealg.IndexByteString", "internal/bytealg.abigen_runtime_cmpstring", "internal/abi.NoEscape"], unfollowed := true, recurses := true, plainKeys := false, apart := false }
def BuildAgainSaid : Prop := buildAgainRow.holds Tryz.pinned (OpenSpec.ofChange buildAgainSpec)

/-- ITS FALSE NEIGHBOUR: 'it returns false'. Refute it at one input. -/
def buildAgainWrong : ChangeSpec := { name := "buildAgain", fn := fun _ => fun
  | [d] => { results := [.lit (.bool false)], args := [d] }
  | _ => none }
def BuildAgainWrongFalsely : Prop := buildAgainRow.holds Tryz.pinned (OpenSpec.ofChange buildAgainWrong)

/-- 'accordionlaw19.BuildKnown': WHATEVER THE INPUT: true; the input reads as it did. -/
def buildKnownSpec : ChangeSpec := { name := "buildKnown", fn := fun _ => fun
  | [] => { results := [.lit (.bool true)], args := [] }
  | _ => none }
def buildKnownRow : OpenClaim := { program := "ytjnpcddbgfmpcaagreat", sum := "6c957c2364a6ad9e1744ebf11cfba52874941b95006b1f347f136c1d2bcc0261", func := "accordion/accordionlaw19.BuildKnown", spec := "buildKnown", inPlace := ["internal/bytealg.IndexByteString", "internal/bytealg.abigen_runtime_cmpstring", "internal/abi.NoEscape"], unfollowed := true, recurses := true, plainKeys := false, apart := false }
def BuildKnownSaid : Prop := buildKnownRow.holds Tryz.pinned (OpenSpec.ofChange buildKnownSpec)

/-- ITS FALSE NEIGHBOUR: 'it returns false'. Refute it at one input. -/
def buildKnownWrong : ChangeSpec := { name := "buildKnown", fn := fun _ => fun
  | [] => { results := [.lit (.bool false)], args := [] }
  | _ => none }
def BuildKnownWrongFalsely : Prop := buildKnownRow.holds Tryz.pinned (OpenSpec.ofChange buildKnownWrong)

/-- 'accordionlaw19.BuildRoots': WHATEVER THE INPUT: true; the input reads as it did. -/
def buildRootsSpec : ChangeSpec := { name := "buildRoots", fn := fun _ => fun
  | [d1, d2, d3] => { results := [.lit (.bool true)], args := [d1, d2, d3] }
  | _ => none }
def buildRootsRow : OpenClaim := { program := "ytjnpcddbgfmpcaagreat", sum := "6c957c2364a6ad9e1744ebf11cfba52874941b95006b1f347f136c1d2bcc0261", func := "accordion/accordionlaw19.BuildRoots", spec := "buildRoots", inPlace := ["internal/bytealg.IndexByteString", "internal/bytealg.abigen_runtime_cmpstring", "internal/abi.NoEscape"], unfollowed := true, recurses := true, plainKeys := false, apart := false }
def BuildRootsSaid : Prop := buildRootsRow.holds Tryz.pinned (OpenSpec.ofChange buildRootsSpec)

/-- ITS FALSE NEIGHBOUR: 'it returns false'. Refute it at one input. -/
def buildRootsWrong : ChangeSpec := { name := "buildRoots", fn := fun _ => fun
  | [d1, d2, d3] => { results := [.lit (.bool false)], args := [d1, d2, d3] }
  | _ => none }
def BuildRootsWrongFalsely : Prop := buildRootsRow.holds Tryz.pinned (OpenSpec.ofChange buildRootsWrong)

/-- 'accordionlaw19.BuildTexts': WHATEVER THE INPUT: true; the input reads as it did. -/
def buildTextsSpec : ChangeSpec := { name := "buildTexts", fn := fun _ => fun
  | [d1, d2, d3] => { results := [.lit (.bool true)], args := [d1, d2, d3] }
  | _ => none }
def buildTextsRow : OpenClaim := { program := "ytjnpcddbgfmpcaagreat", sum := "6c957c2364a6ad9e1744ebf11cfba52874941b95006b1f347f136c1d2bcc0261", func := "accordion/accordionlaw19.BuildTexts", spec := "buildTexts", inPlace := ["internal/abi.NoEscape", "internal/bytealg.MakeNoZero", "internal/bytealg.IndexByteString", "internal/bytealg.abigen_runtime_cmpstring"], unfollowed := true, recurses := true, plainKeys := false, apart := false }
def BuildTextsSaid : Prop := buildTextsRow.holds Tryz.pinned (OpenSpec.ofChange buildTextsSpec)

/-- ITS FALSE NEIGHBOUR: 'it returns false'. Refute it at one input. -/
def buildTextsWrong : ChangeSpec := { name := "buildTexts", fn := fun _ => fun
  | [d1, d2, d3] => { results := [.lit (.bool false)], args := [d1, d2, d3] }
  | _ => none }
def BuildTextsWrongFalsely : Prop := buildTextsRow.holds Tryz.pinned (OpenSpec.ofChange buildTextsWrong)

/- THE SECOND FORM. 'bulk': how many values and letters a reading holds, each counted each time it is reached (what is shared counts as often as it is met; a slice's spare places count too). A statement '..UptoSaid' is the law's where the arguments, and the package variables that the reading takes, are together of bulk at most 1048576: NARROWER than '..Said'. Prove '..Said' where nothing that the law and all that it calls make is longer than what came in: it says more and counts as full. Else prove '..UptoSaid'. A law counts once. -/
mutual
def uptoBulk {H : Type} : DataW H → Nat
  | .lit (.string bytes) => bytes.length + 1
  | .lit _ => 1
  | .nil => 1
  | .ptr d => uptoBulk d + 1
  | .slice elems spare => uptoBulkAll elems + uptoBulkAll spare + 1
  | .agg parts => uptoBulkAll parts + 1
  | .iface _ d => uptoBulk d + 1
  | .map entries => uptoBulkEntries entries + 1
  | .held _ => 1
def uptoBulkAll {H : Type} : List (DataW H) → Nat
  | [] => 0
  | d :: r => uptoBulk d + uptoBulkAll r
def uptoBulkEntries {H : Type} : List (Lit × DataW H) → Nat
  | [] => 0
  | x :: r => uptoBulkEntry x + uptoBulkEntries r
def uptoBulkEntry {H : Type} : Lit × DataW H → Nat
  | (.string bytes, d) => bytes.length + uptoBulk d + 1
  | (_, d) => uptoBulk d + 1
 end
def uptoSmall : (H : Type) → List (DataW H) → Bool := fun _ ds => decide (uptoBulkAll ds ≤ 1048576)
def OpenSpec.upto (s : _root_.Go.ChangeSpec) : _root_.Go.OpenSpec := { _root_.Go.OpenSpec.ofChange s with cond := some uptoSmall }

/-- 'accordionlaw19.BuildStops', WHERE WHAT IT READS IS OF BULK AT MOST 1048576: true; the input reads as it did. -/
def buildStopsUptoRow : OpenClaim := { program := "ytjnpcddbgfmpcaagreat", sum := "6c957c2364a6ad9e1744ebf11cfba52874941b95006b1f347f136c1d2bcc0261", func := "accordion/accordionlaw19.BuildStops", spec := "buildStops", inPlace := ["internal/bytealg.IndexByteString", "internal/bytealg.abigen_runtime_cmpstring", "internal/abi.NoEscape"], unfollowed := true, recurses := true, plainKeys := false, apart := false, narrowed := true }
def BuildStopsUptoSaid : Prop := buildStopsUptoRow.holds Tryz.pinned (OpenSpec.upto buildStopsSpec)

/-- 'accordionlaw19.BuildAgain', WHERE WHAT IT READS IS OF BULK AT MOST 1048576: true; the input reads as it did. -/
def buildAgainUptoRow : OpenClaim := { program := "ytjnpcddbgfmpcaagreat", sum := "6c957c2364a6ad9e1744ebf11cfba52874941b95006b1f347f136c1d2bcc0261", func := "accordion/accordionlaw19.BuildAgain", spec := "buildAgain", inPlace := ["internal/bytealg.IndexByteString", "internal/bytealg.abigen_runtime_cmpstring", "internal/abi.NoEscape"], unfollowed := true, recurses := true, plainKeys := false, apart := false, narrowed := true }
def BuildAgainUptoSaid : Prop := buildAgainUptoRow.holds Tryz.pinned (OpenSpec.upto buildAgainSpec)

/-- 'accordionlaw19.BuildKnown', WHERE WHAT IT READS IS OF BULK AT MOST 1048576: true; the input reads as it did. -/
def buildKnownUptoRow : OpenClaim := { program := "ytjnpcddbgfmpcaagreat", sum := "6c957c2364a6ad9e1744ebf11cfba52874941b95006b1f347f136c1d2bcc0261", func := "accordion/accordionlaw19.BuildKnown", spec := "buildKnown", inPlace := ["internal/bytealg.IndexByteString", "internal/bytealg.abigen_runtime_cmpstring", "internal/abi.NoEscape"], unfollowed := true, recurses := true, plainKeys := false, apart := false, narrowed := true }
def BuildKnownUptoSaid : Prop := buildKnownUptoRow.holds Tryz.pinned (OpenSpec.upto buildKnownSpec)

/-- 'accordionlaw19.BuildRoots', WHERE WHAT IT READS IS OF BULK AT MOST 1048576: true; the input reads as it did. -/
def buildRootsUptoRow : OpenClaim := { program := "ytjnpcddbgfmpcaagreat", sum := "6c957c2364a6ad9e1744ebf11cfba52874941b95006b1f347f136c1d2bcc0261", func := "accordion/accordionlaw19.BuildRoots", spec := "buildRoots", inPlace := ["internal/bytealg.IndexByteString", "internal/bytealg.abigen_runtime_cmpstring", "internal/abi.NoEscape"], unfollowed := true, recurses := true, plainKeys := false, apart := false, narrowed := true }
def BuildRootsUptoSaid : Prop := buildRootsUptoRow.holds Tryz.pinned (OpenSpec.upto buildRootsSpec)

/-- 'accordionlaw19.BuildTexts', WHERE WHAT IT READS IS OF BULK AT MOST 1048576: true; the input reads as it did. -/
def buildTextsUptoRow : OpenClaim := { program := "ytjnpcddbgfmpcaagreat", sum := "6c957c2364a6ad9e1744ebf11cfba52874941b95006b1f347f136c1d2bcc0261", func := "accordion/accordionlaw19.BuildTexts", spec := "buildTexts", inPlace := ["internal/abi.NoEscape", "internal/bytealg.MakeNoZero", "internal/bytealg.IndexByteString", "internal/bytealg.abigen_runtime_cmpstring"], unfollowed := true, recurses := true, plainKeys := false, apart := false, narrowed := true }
def BuildTextsUptoSaid : Prop := buildTextsUptoRow.holds Tryz.pinned (OpenSpec.upto buildTextsSpec)

end Rows
end Go.Proofs.YtjnpcddbgfmpcaaGreat
