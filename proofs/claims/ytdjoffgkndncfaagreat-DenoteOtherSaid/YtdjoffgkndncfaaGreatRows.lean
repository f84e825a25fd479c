/-
  NARROWER THAN 'FOR EVERY INPUT', by the rows' own cells (each row's printed sentence says how): EncodeOrder: loops · EncodeCapped: loops · EncodeEnds: loops · EncodeFlags: loops · DenoteBuilt: loops · DenoteOther: loops.
  DERIVED. THE GIVEN ROWS OF THIS SEAT. 7 by the template 'for every input the law returns true; each argument reads behind the call as it read before'; 0 by the template 'total and deterministic' (their statements: YtdjoffgkndncfaaGreatTotals.lean).
  GIVEN WITH THE SEED: the statements are not yours to turn. If you find one false, say at which input.
  Laid BY PROGRAM, IN A SANDBOX (cutbox-rows.mjs): the forced cells as the released guide's own fill.sh prints them over the translation b48df7c84acf4bbf… (all of the seat's roots in one cut). By AI agents, Wed Nov 11 2026. No macro, syntax, notation, axiom, sorry.
-/
import Derived.Test.YtdjoffgkndncfaaGreatChecked
import GoSem.Claim
import GoSem.ClaimJoined
import GoSem.ClaimMapViews
import Derived.JoinedTies
import Derived.KernelRfl
namespace Go.Proofs.YtdjoffgkndncfaaGreat
/- THE CELL 'sum', in the pinned program and in every row, IS THE sha256 OF THE DUMP (.gsa) THAT YtdjoffgkndncfaaGreatProg.lean LOADS. Nothing in Lean hashes anything: it is a label: what it is worth is what the hold of that sum in a sandbox is worth. -/
noncomputable def Tryz.pinned : Pinned := { name := "ytdjoffgkndncfaagreat", sum := "b48df7c84acf4bbfd19bf00c86b2a4f7ed8447fc1e743e3704af2716438ed704", checked := Tryz.checked }
namespace Rows
def none {H : Type} : Left H := { results := [], args := [] }

/-- 'accordionlaw20.EncodeOrder': WHATEVER THE INPUT: true; the input reads as it did. -/
def encodeOrderSpec : ChangeSpec := { name := "encodeOrder", fn := fun _ => fun
  | [d1, d2, d3] => { results := [.lit (.bool true)], args := [d1, d2, d3] }
  | _ => none }
def encodeOrderRow : OpenClaim := { program := "ytdjoffgkndncfaagreat", sum := "b48df7c84acf4bbfd19bf00c86b2a4f7ed8447fc1e743e3704af2716438ed704", func := "accordion/accordionlaw20.EncodeOrder", spec := "encodeOrder", inPlace := ["internal/bytealg.IndexByteString", "internal/bytealg.abigen_runtime_cmpstring", "internal/abi.NoEscape"], unfollowed := true, recurses := true, loops := true, plainKeys := false, apart := false }
def EncodeOrderSaid : Prop := encodeOrderRow.holds Tryz.pinned (OpenSpec.ofChange encodeOrderSpec)

/-- ITS FALSE NEIGHBOUR: 'it returns false'. Refute it at one input. -/
def encodeOrderWrong : ChangeSpec := { name := "encodeOrder", fn := fun _ => fun
  | [d1, d2, d3] => { results := [.lit (.bool false)], args := [d1, d2, d3] }
  | _ => none }
def EncodeOrderWrongFalsely : Prop := encodeOrderRow.holds Tryz.pinned (OpenSpec.ofChange encodeOrderWrong)

/-- 'accordionlaw20.EncodeCapped': WHATEVER THE INPUT: true; the input reads as it did. -/
def encodeCappedSpec : ChangeSpec := { name := "encodeCapped", fn := fun _ => fun
  | [d1, d2, d3] => { results := [.lit (.bool true)], args := [d1, d2, d3] }
  | _ => none }
def encodeCappedRow : OpenClaim := { program := "ytdjoffgkndncfaagreat", sum := "b48df7c84acf4bbfd19bf00c86b2a4f7ed8447fc1e743e3704af2716438ed704", func := "accordion/accordionlaw20.EncodeCapped", spec := "encodeCapped", inPlace := ["internal/bytealg.IndexByteString", "internal/bytealg.abigen_runtime_cmpstring", "internal/abi.NoEscape"], unfollowed := true, recurses := true, loops := true, plainKeys := false, apart := false }
def EncodeCappedSaid : Prop := encodeCappedRow.holds Tryz.pinned (OpenSpec.ofChange encodeCappedSpec)

/-- ITS FALSE NEIGHBOUR: 'it returns false'. Refute it at one input. -/
def encodeCappedWrong : ChangeSpec := { name := "encodeCapped", fn := fun _ => fun
  | [d1, d2, d3] => { results := [.lit (.bool false)], args := [d1, d2, d3] }
  | _ => none }
def EncodeCappedWrongFalsely : Prop := encodeCappedRow.holds Tryz.pinned (OpenSpec.ofChange encodeCappedWrong)

/-- 'accordionlaw20.EncodeEnds': WHATEVER THE INPUT: true; the input reads as it did. -/
def encodeEndsSpec : ChangeSpec := { name := "encodeEnds", fn := fun _ => fun
  | [d1, d2] => { results := [.lit (.bool true)], args := [d1, d2] }
  | _ => none }
def encodeEndsRow : OpenClaim := { program := "ytdjoffgkndncfaagreat", sum := "b48df7c84acf4bbfd19bf00c86b2a4f7ed8447fc1e743e3704af2716438ed704", func := "accordion/accordionlaw20.EncodeEnds", spec := "encodeEnds", inPlace := ["internal/bytealg.IndexByteString", "internal/bytealg.abigen_runtime_cmpstring", "internal/abi.NoEscape"], unfollowed := true, recurses := true, loops := true, plainKeys := false, apart := false }
def EncodeEndsSaid : Prop := encodeEndsRow.holds Tryz.pinned (OpenSpec.ofChange encodeEndsSpec)

/-- ITS FALSE NEIGHBOUR: 'it returns false'. Refute it at one input. -/
def encodeEndsWrong : ChangeSpec := { name := "encodeEnds", fn := fun _ => fun
  | [d1, d2] => { results := [.lit (.bool false)], args := [d1, d2] }
  | _ => none }
def EncodeEndsWrongFalsely : Prop := encodeEndsRow.holds Tryz.pinned (OpenSpec.ofChange encodeEndsWrong)

/-- 'accordionlaw20.EncodeFlags': WHATEVER THE INPUT: true; the input reads as it did. -/
def encodeFlagsSpec : ChangeSpec := { name := "encodeFlags", fn := fun _ => fun
  | [d1, d2] => { results := [.lit (.bool true)], args := [d1, d2] }
  | _ => none }
def encodeFlagsRow : OpenClaim := { program := "ytdjoffgkndncfaagreat", sum := "b48df7c84acf4bbfd19bf00c86b2a4f7ed8447fc1e743e3704af2716438ed704", func := "accordion/accordionlaw20.EncodeFlags", spec := "encodeFlags", inPlace := ["internal/abi.NoEscape", "internal/bytealg.MakeNoZero", "internal/bytealg.IndexByteString", "internal/bytealg.abigen_runtime_cmpstring"], unfollowed := true, recurses := true, loops := true, plainKeys := false, apart := false }
def EncodeFlagsSaid : Prop := encodeFlagsRow.holds Tryz.pinned (OpenSpec.ofChange encodeFlagsSpec)

/-- ITS FALSE NEIGHBOUR: 'it returns false'. Refute it at one input. -/
def encodeFlagsWrong : ChangeSpec := { name := "encodeFlags", fn := fun _ => fun
  | [d1, d2] => { results := [.lit (.bool false)], args := [d1, d2] }
  | _ => none }
def EncodeFlagsWrongFalsely : Prop := encodeFlagsRow.holds Tryz.pinned (OpenSpec.ofChange encodeFlagsWrong)

/-- 'accordionlaw27.DenoteBuilt': WHATEVER THE INPUT: true; the input reads as it did. -/
def denoteBuiltSpec : ChangeSpec := { name := "denoteBuilt", fn := fun _ => fun
  | [d1, d2] => { results := [.lit (.bool true)], args := [d1, d2] }
  | _ => none }
def denoteBuiltRow : OpenClaim := { program := "ytdjoffgkndncfaagreat", sum := "b48df7c84acf4bbfd19bf00c86b2a4f7ed8447fc1e743e3704af2716438ed704", func := "accordion/accordionlaw27.DenoteBuilt", spec := "denoteBuilt", inPlace := ["internal/bytealg.IndexByteString", "internal/bytealg.abigen_runtime_cmpstring", "internal/abi.NoEscape"], unfollowed := true, recurses := true, loops := true, plainKeys := false, apart := false }
def DenoteBuiltSaid : Prop := denoteBuiltRow.holds Tryz.pinned (OpenSpec.ofChange denoteBuiltSpec)

/-- ITS FALSE NEIGHBOUR: 'it returns false'. Refute it at one input. -/
def denoteBuiltWrong : ChangeSpec := { name := "denoteBuilt", fn := fun _ => fun
  | [d1, d2] => { results := [.lit (.bool false)], args := [d1, d2] }
  | _ => none }
def DenoteBuiltWrongFalsely : Prop := denoteBuiltRow.holds Tryz.pinned (OpenSpec.ofChange denoteBuiltWrong)

/-- 'accordionlaw27.DenoteTurned': WHATEVER THE INPUT: true; the input reads as it did. -/
def denoteTurnedSpec : ChangeSpec := { name := "denoteTurned", fn := fun _ => fun
  | [d1, d2, d3] => { results := [.lit (.bool true)], args := [d1, d2, d3] }
  | _ => none }
def denoteTurnedRow : OpenClaim := { program := "ytdjoffgkndncfaagreat", sum := "b48df7c84acf4bbfd19bf00c86b2a4f7ed8447fc1e743e3704af2716438ed704", func := "accordion/accordionlaw27.DenoteTurned", spec := "denoteTurned", inPlace := ["internal/bytealg.IndexByteString", "internal/bytealg.abigen_runtime_cmpstring", "internal/abi.NoEscape"], unfollowed := true, recurses := true, plainKeys := false, apart := false }
def DenoteTurnedSaid : Prop := denoteTurnedRow.holds Tryz.pinned (OpenSpec.ofChange denoteTurnedSpec)

/-- ITS FALSE NEIGHBOUR: 'it returns false'. Refute it at one input. -/
def denoteTurnedWrong : ChangeSpec := { name := "denoteTurned", fn := fun _ => fun
  | [d1, d2, d3] => { results := [.lit (.bool false)], args := [d1, d2, d3] }
  | _ => none }
def DenoteTurnedWrongFalsely : Prop := denoteTurnedRow.holds Tryz.pinned (OpenSpec.ofChange denoteTurnedWrong)

/-- 'accordionlaw27.DenoteOther': WHATEVER THE INPUT: true; the input reads as it did. -/
def denoteOtherSpec : ChangeSpec := { name := "denoteOther", fn := fun _ => fun
  | [d1, d2, d3] => { results := [.lit (.bool true)], args := [d1, d2, d3] }
  | _ => none }
def denoteOtherRow : OpenClaim := { program := "ytdjoffgkndncfaagreat", sum := "b48df7c84acf4bbfd19bf00c86b2a4f7ed8447fc1e743e3704af2716438ed704", func := "accordion/accordionlaw27.DenoteOther", spec := "denoteOther", inPlace := ["internal/bytealg.IndexByteString", "internal/bytealg.abigen_runtime_cmpstring", "internal/abi.NoEscape"], unfollowed := true, recurses := true, loops := true, plainKeys := false, apart := false }
def DenoteOtherSaid : Prop := denoteOtherRow.holds Tryz.pinned (OpenSpec.ofChange denoteOtherSpec)

/-- ITS FALSE NEIGHBOUR: 'it returns false'. Refute it at one input. -/
def denoteOtherWrong : ChangeSpec := { name := "denoteOther", fn := fun _ => fun
  | [d1, d2, d3] => { results := [.lit (.bool false)], args := [d1, d2, d3] }
  | _ => none }
def DenoteOtherWrongFalsely : Prop := denoteOtherRow.holds Tryz.pinned (OpenSpec.ofChange denoteOtherWrong)

/- THE SECOND FORM. 'bulk': how many values and letters a reading holds, each counted each time it is reached (what is shared counts as often as it is met; a slice's spare places count too). A statement '..UptoSaid' is the law's where the arguments, and the package variables that the reading takes, are together of bulk at most 1048576: NARROWER than '..Said'. Prove '..Said' where nothing that the law and all that it calls make is longer than what came in: it says more and counts as full. Else prove '..UptoSaid'. A law counts once. -/
mutual
def uptoBulk {H : Type} : DataW H → Nat
  | .lit (.string bytes) => bytes.length + 1
  | .lit _ => 1
  | .nil => 1
  | .ptr d => uptoBulk d + 1
  | .slice elems spare => uptoBulkAll elems + uptoBulkAll spare + 1
  | .agg parts => uptoBulkAll parts + 1
  | .iface _ d => uptoBulk d + 1
  | .map entries => uptoBulkEntries entries + 1
  | .held _ => 1
def uptoBulkAll {H : Type} : List (DataW H) → Nat
  | [] => 0
  | d :: r => uptoBulk d + uptoBulkAll r
def uptoBulkEntries {H : Type} : List (Lit × DataW H) → Nat
  | [] => 0
  | x :: r => uptoBulkEntry x + uptoBulkEntries r
def uptoBulkEntry {H : Type} : Lit × DataW H → Nat
  | (.string bytes, d) => bytes.length + uptoBulk d + 1
  | (_, d) => uptoBulk d + 1
 end
def uptoSmall : (H : Type) → List (DataW H) → Bool := fun _ ds => decide (uptoBulkAll ds ≤ 1048576)
def OpenSpec.upto (s : _root_.Go.ChangeSpec) : _root_.Go.OpenSpec := { _root_.Go.OpenSpec.ofChange s with cond := some uptoSmall }

/-- 'accordionlaw20.EncodeOrder', WHERE WHAT IT READS IS OF BULK AT MOST 1048576: true; the input reads as it did. -/
def encodeOrderUptoRow : OpenClaim := { program := "ytdjoffgkndncfaagreat", sum := "b48df7c84acf4bbfd19bf00c86b2a4f7ed8447fc1e743e3704af2716438ed704", func := "accordion/accordionlaw20.EncodeOrder", spec := "encodeOrder", inPlace := ["internal/bytealg.IndexByteString", "internal/bytealg.abigen_runtime_cmpstring", "internal/abi.NoEscape"], unfollowed := true, recurses := true, loops := true, plainKeys := false, apart := false, narrowed := true }
def EncodeOrderUptoSaid : Prop := encodeOrderUptoRow.holds Tryz.pinned (OpenSpec.upto encodeOrderSpec)

/-- 'accordionlaw20.EncodeCapped', WHERE WHAT IT READS IS OF BULK AT MOST 1048576: true; the input reads as it did. -/
def encodeCappedUptoRow : OpenClaim := { program := "ytdjoffgkndncfaagreat", sum := "b48df7c84acf4bbfd19bf00c86b2a4f7ed8447fc1e743e3704af2716438ed704", func := "accordion/accordionlaw20.EncodeCapped", spec := "encodeCapped", inPlace := ["internal/bytealg.IndexByteString", "internal/bytealg.abigen_runtime_cmpstring", "internal/abi.NoEscape"], unfollowed := true, recurses := true, loops := true, plainKeys := false, apart := false, narrowed := true }
def EncodeCappedUptoSaid : Prop := encodeCappedUptoRow.holds Tryz.pinned (OpenSpec.upto encodeCappedSpec)

/-- 'accordionlaw20.EncodeEnds', WHERE WHAT IT READS IS OF BULK AT MOST 1048576: true; the input reads as it did. -/
def encodeEndsUptoRow : OpenClaim := { program := "ytdjoffgkndncfaagreat", sum := "b48df7c84acf4bbfd19bf00c86b2a4f7ed8447fc1e743e3704af2716438ed704", func := "accordion/accordionlaw20.EncodeEnds", spec := "encodeEnds", inPlace := ["internal/bytealg.IndexByteString", "internal/bytealg.abigen_runtime_cmpstring", "internal/abi.NoEscape"], unfollowed := true, recurses := true, loops := true, plainKeys := false, apart := false, narrowed := true }
def EncodeEndsUptoSaid : Prop := encodeEndsUptoRow.holds Tryz.pinned (OpenSpec.upto encodeEndsSpec)

/-- 'accordionlaw20.EncodeFlags', WHERE WHAT IT READS IS OF BULK AT MOST 1048576: true; the input reads as it did. -/
def encodeFlagsUptoRow : OpenClaim := { program := "ytdjoffgkndncfaagreat", sum := "b48df7c84acf4bbfd19bf00c86b2a4f7ed8447fc1e743e3704af2716438ed704", func := "accordion/accordionlaw20.EncodeFlags", spec := "encodeFlags", inPlace := ["internal/abi.NoEscape", "internal/bytealg.MakeNoZero", "internal/bytealg.IndexByteString", "internal/bytealg.abigen_runtime_cmpstring"], unfollowed := true, recurses := true, loops := true, plainKeys := false, apart := false, narrowed := true }
def EncodeFlagsUptoSaid : Prop := encodeFlagsUptoRow.holds Tryz.pinned (OpenSpec.upto encodeFlagsSpec)

/-- 'accordionlaw27.DenoteBuilt', WHERE WHAT IT READS IS OF BULK AT MOST 1048576: true; the input reads as it did. -/
def denoteBuiltUptoRow : OpenClaim := { program := "ytdjoffgkndncfaagreat", sum := "b48df7c84acf4bbfd19bf00c86b2a4f7ed8447fc1e743e3704af2716438ed704", func := "accordion/accordionlaw27.DenoteBuilt", spec := "denoteBuilt", inPlace := ["internal/bytealg.IndexByteString", "internal/bytealg.abigen_runtime_cmpstring", "internal/abi.NoEscape"], unfollowed := true, recurses := true, loops := true, plainKeys := false, apart := false, narrowed := true }
def DenoteBuiltUptoSaid : Prop := denoteBuiltUptoRow.holds Tryz.pinned (OpenSpec.upto denoteBuiltSpec)

/-- 'accordionlaw27.DenoteTurned', WHERE WHAT IT READS IS OF BULK AT MOST 1048576: true; the input reads as it did. -/
def denoteTurnedUptoRow : OpenClaim := { program := "ytdjoffgkndncfaagreat", sum := "b48df7c84acf4bbfd19bf00c86b2a4f7ed8447fc1e743e3704af2716438ed704", func := "accordion/accordionlaw27.DenoteTurned", spec := "denoteTurned", inPlace := ["internal/bytealg.IndexByteString", "internal/bytealg.abigen_runtime_cmpstring", "internal/abi.NoEscape"], unfollowed := true, recurses := true, plainKeys := false, apart := false, narrowed := true }
def DenoteTurnedUptoSaid : Prop := denoteTurnedUptoRow.holds Tryz.pinned (OpenSpec.upto denoteTurnedSpec)

/-- 'accordionlaw27.DenoteOther', WHERE WHAT IT READS IS OF BULK AT MOST 1048576: true; the input reads as it did. -/
def denoteOtherUptoRow : OpenClaim := { program := "ytdjoffgkndncfaagreat", sum := "b48df7c84acf4bbfd19bf00c86b2a4f7ed8447fc1e743e3704af2716438ed704", func := "accordion/accordionlaw27.DenoteOther", spec := "denoteOther", inPlace := ["internal/bytealg.IndexByteString", "internal/bytealg.abigen_runtime_cmpstring", "internal/abi.NoEscape"], unfollowed := true, recurses := true, loops := true, plainKeys := false, apart := false, narrowed := true }
def DenoteOtherUptoSaid : Prop := denoteOtherUptoRow.holds Tryz.pinned (OpenSpec.upto denoteOtherSpec)

end Rows
end Go.Proofs.YtdjoffgkndncfaaGreat
