/-
  NARROWER THAN 'FOR EVERY INPUT', by the rows' own cells (each row's printed sentence says how): NormalForms: loops · NormalAlike: loops · NormalTags: loops · NormalKinds: loops · NormalParts: loops.
  DERIVED. THE GIVEN ROWS OF THIS SEAT. 6 by the template 'for every input the law returns true; each argument reads behind the call as it read before'; 0 by the template 'total and deterministic' (their statements: YtfbeepkogcmlmaaTotals.lean).
  GIVEN WITH THE SEED: the statements are not yours to turn. If you find one false, say at which input.
  Laid BY PROGRAM, IN A SANDBOX (cutbox-rows.mjs): the forced cells as the released guide's own fill.sh prints them over the translation 4b52e083abca23f7… (all of the seat's roots in one cut). By AI agents, Wed Nov 11 2026. No macro, syntax, notation, axiom, sorry.
-/
import Derived.Test.YtfbeepkogcmlmaaChecked
import GoSem.Claim
import GoSem.ClaimJoined
import GoSem.ClaimMapViews
import Derived.JoinedTies
import Derived.KernelRfl
namespace Go.Proofs.Ytfbeepkogcmlmaa
/- THE CELL 'sum', in the pinned program and in every row, IS THE sha256 OF THE DUMP (.gsa) THAT YtfbeepkogcmlmaaProg.lean LOADS. Nothing in Lean hashes anything: it is a label: what it is worth is what the hold of that sum in a sandbox is worth. -/
noncomputable def Try.pinned : Pinned := { name := "ytfbeepkogcmlmaa", sum := "4b52e083abca23f74166cb3f0562615c32e8f02c26b1a1ee9c0315b972efb1df", checked := Try.checked }
namespace Rows
def none {H : Type} : Left H := { results := [], args := [] }

/-- 'accordionlaw09.NormalForms': WHATEVER THE INPUT: true; the input reads as it did. -/
def normalFormsSpec : ChangeSpec := { name := "normalForms", fn := fun _ => fun
  | [d] => { results := [.lit (.bool true)], args := [d] }
  | _ => none }
def normalFormsRow : OpenClaim := { program := "ytfbeepkogcmlmaa", sum := "4b52e083abca23f74166cb3f0562615c32e8f02c26b1a1ee9c0315b972efb1df", func := "accordion/accordionlaw09.NormalForms", spec := "normalForms", inPlace := ["internal/bytealg.IndexByteString", "internal/bytealg.abigen_runtime_cmpstring"], unfollowed := true, recurses := true, loops := true, apart := false }
def NormalFormsSaid : Prop := normalFormsRow.holds Try.pinned (OpenSpec.ofChange normalFormsSpec)

/-- ITS FALSE NEIGHBOUR: 'it returns false'. Refute it at one input. -/
def normalFormsWrong : ChangeSpec := { name := "normalForms", fn := fun _ => fun
  | [d] => { results := [.lit (.bool false)], args := [d] }
  | _ => none }
def NormalFormsWrongFalsely : Prop := normalFormsRow.holds Try.pinned (OpenSpec.ofChange normalFormsWrong)

/-- 'accordionlaw09.NormalAlike': WHATEVER THE INPUT: true; the input reads as it did. -/
def normalAlikeSpec : ChangeSpec := { name := "normalAlike", fn := fun _ => fun
  | [d1, d2] => { results := [.lit (.bool true)], args := [d1, d2] }
  | _ => none }
def normalAlikeRow : OpenClaim := { program := "ytfbeepkogcmlmaa", sum := "4b52e083abca23f74166cb3f0562615c32e8f02c26b1a1ee9c0315b972efb1df", func := "accordion/accordionlaw09.NormalAlike", spec := "normalAlike", inPlace := ["internal/bytealg.IndexByteString", "internal/bytealg.abigen_runtime_cmpstring"], unfollowed := true, recurses := true, loops := true, apart := false }
def NormalAlikeSaid : Prop := normalAlikeRow.holds Try.pinned (OpenSpec.ofChange normalAlikeSpec)

/-- ITS FALSE NEIGHBOUR: 'it returns false'. Refute it at one input. -/
def normalAlikeWrong : ChangeSpec := { name := "normalAlike", fn := fun _ => fun
  | [d1, d2] => { results := [.lit (.bool false)], args := [d1, d2] }
  | _ => none }
def NormalAlikeWrongFalsely : Prop := normalAlikeRow.holds Try.pinned (OpenSpec.ofChange normalAlikeWrong)

/-- 'accordionlaw09.NormalTags': WHATEVER THE INPUT: true; the input reads as it did. -/
def normalTagsSpec : ChangeSpec := { name := "normalTags", fn := fun _ => fun
  | [d1, d2] => { results := [.lit (.bool true)], args := [d1, d2] }
  | _ => none }
def normalTagsRow : OpenClaim := { program := "ytfbeepkogcmlmaa", sum := "4b52e083abca23f74166cb3f0562615c32e8f02c26b1a1ee9c0315b972efb1df", func := "accordion/accordionlaw09.NormalTags", spec := "normalTags", inPlace := ["internal/bytealg.IndexByteString", "internal/bytealg.abigen_runtime_cmpstring"], unfollowed := true, recurses := true, loops := true, apart := false }
def NormalTagsSaid : Prop := normalTagsRow.holds Try.pinned (OpenSpec.ofChange normalTagsSpec)

/-- ITS FALSE NEIGHBOUR: 'it returns false'. Refute it at one input. -/
def normalTagsWrong : ChangeSpec := { name := "normalTags", fn := fun _ => fun
  | [d1, d2] => { results := [.lit (.bool false)], args := [d1, d2] }
  | _ => none }
def NormalTagsWrongFalsely : Prop := normalTagsRow.holds Try.pinned (OpenSpec.ofChange normalTagsWrong)

/-- 'accordionlaw09.NormalKnown': WHATEVER THE INPUT: true; the input reads as it did. -/
def normalKnownSpec : ChangeSpec := { name := "normalKnown", fn := fun _ => fun
  | [] => { results := [.lit (.bool true)], args := [] }
  | _ => none }
def normalKnownRow : OpenClaim := { program := "ytfbeepkogcmlmaa", sum := "4b52e083abca23f74166cb3f0562615c32e8f02c26b1a1ee9c0315b972efb1df", func := "accordion/accordionlaw09.NormalKnown", spec := "normalKnown", inPlace := ["internal/bytealg.IndexByteString", "internal/bytealg.abigen_runtime_cmpstring"], unfollowed := true, recurses := true, apart := false }
def NormalKnownSaid : Prop := normalKnownRow.holds Try.pinned (OpenSpec.ofChange normalKnownSpec)

/-- ITS FALSE NEIGHBOUR: 'it returns false'. Refute it at one input. -/
def normalKnownWrong : ChangeSpec := { name := "normalKnown", fn := fun _ => fun
  | [] => { results := [.lit (.bool false)], args := [] }
  | _ => none }
def NormalKnownWrongFalsely : Prop := normalKnownRow.holds Try.pinned (OpenSpec.ofChange normalKnownWrong)

/-- 'accordionlaw09.NormalKinds': WHATEVER THE INPUT: true; the input reads as it did. -/
def normalKindsSpec : ChangeSpec := { name := "normalKinds", fn := fun _ => fun
  | [d] => { results := [.lit (.bool true)], args := [d] }
  | _ => none }
def normalKindsRow : OpenClaim := { program := "ytfbeepkogcmlmaa", sum := "4b52e083abca23f74166cb3f0562615c32e8f02c26b1a1ee9c0315b972efb1df", func := "accordion/accordionlaw09.NormalKinds", spec := "normalKinds", inPlace := ["internal/bytealg.IndexByteString", "internal/bytealg.abigen_runtime_cmpstring"], unfollowed := true, recurses := true, loops := true, apart := false }
def NormalKindsSaid : Prop := normalKindsRow.holds Try.pinned (OpenSpec.ofChange normalKindsSpec)

/-- ITS FALSE NEIGHBOUR: 'it returns false'. Refute it at one input. -/
def normalKindsWrong : ChangeSpec := { name := "normalKinds", fn := fun _ => fun
  | [d] => { results := [.lit (.bool false)], args := [d] }
  | _ => none }
def NormalKindsWrongFalsely : Prop := normalKindsRow.holds Try.pinned (OpenSpec.ofChange normalKindsWrong)

/-- 'accordionlaw09.NormalParts': WHATEVER THE INPUT: true; the input reads as it did. -/
def normalPartsSpec : ChangeSpec := { name := "normalParts", fn := fun _ => fun
  | [d1, d2] => { results := [.lit (.bool true)], args := [d1, d2] }
  | _ => none }
def normalPartsRow : OpenClaim := { program := "ytfbeepkogcmlmaa", sum := "4b52e083abca23f74166cb3f0562615c32e8f02c26b1a1ee9c0315b972efb1df", func := "accordion/accordionlaw09.NormalParts", spec := "normalParts", inPlace := ["internal/bytealg.IndexByteString", "internal/bytealg.abigen_runtime_cmpstring"], unfollowed := true, recurses := true, loops := true, apart := false }
def NormalPartsSaid : Prop := normalPartsRow.holds Try.pinned (OpenSpec.ofChange normalPartsSpec)

/-- ITS FALSE NEIGHBOUR: 'it returns false'. Refute it at one input. -/
def normalPartsWrong : ChangeSpec := { name := "normalParts", fn := fun _ => fun
  | [d1, d2] => { results := [.lit (.bool false)], args := [d1, d2] }
  | _ => none }
def NormalPartsWrongFalsely : Prop := normalPartsRow.holds Try.pinned (OpenSpec.ofChange normalPartsWrong)

/- THE SECOND FORM. 'bulk': how many values and letters a reading holds, each counted each time it is reached (what is shared counts as often as it is met; a slice's spare places count too). A statement '..UptoSaid' is the law's where the arguments, and the package variables that the reading takes, are together of bulk at most 1048576: NARROWER than '..Said'. Prove '..Said' where nothing that the law and all that it calls make is longer than what came in: it says more and counts as full. Else prove '..UptoSaid'. A law counts once. -/
mutual
def uptoBulk {H : Type} : DataW H → Nat
  | .lit (.string bytes) => bytes.length + 1
  | .lit _ => 1
  | .nil => 1
  | .ptr d => uptoBulk d + 1
  | .slice elems spare => uptoBulkAll elems + uptoBulkAll spare + 1
  | .agg parts => uptoBulkAll parts + 1
  | .iface _ d => uptoBulk d + 1
  | .map entries => uptoBulkEntries entries + 1
  | .held _ => 1
def uptoBulkAll {H : Type} : List (DataW H) → Nat
  | [] => 0
  | d :: r => uptoBulk d + uptoBulkAll r
def uptoBulkEntries {H : Type} : List (Lit × DataW H) → Nat
  | [] => 0
  | x :: r => uptoBulkEntry x + uptoBulkEntries r
def uptoBulkEntry {H : Type} : Lit × DataW H → Nat
  | (.string bytes, d) => bytes.length + uptoBulk d + 1
  | (_, d) => uptoBulk d + 1
 end
def uptoSmall : (H : Type) → List (DataW H) → Bool := fun _ ds => decide (uptoBulkAll ds ≤ 1048576)
def OpenSpec.upto (s : _root_.Go.ChangeSpec) : _root_.Go.OpenSpec := { _root_.Go.OpenSpec.ofChange s with cond := some uptoSmall }

/-- 'accordionlaw09.NormalForms', WHERE WHAT IT READS IS OF BULK AT MOST 1048576: true; the input reads as it did. -/
def normalFormsUptoRow : OpenClaim := { program := "ytfbeepkogcmlmaa", sum := "4b52e083abca23f74166cb3f0562615c32e8f02c26b1a1ee9c0315b972efb1df", func := "accordion/accordionlaw09.NormalForms", spec := "normalForms", inPlace := ["internal/bytealg.IndexByteString", "internal/bytealg.abigen_runtime_cmpstring"], unfollowed := true, recurses := true, loops := true, apart := false, narrowed := true }
def NormalFormsUptoSaid : Prop := normalFormsUptoRow.holds Try.pinned (OpenSpec.upto normalFormsSpec)

/-- 'accordionlaw09.NormalAlike', WHERE WHAT IT READS IS OF BULK AT MOST 1048576: true; the input reads as it did. -/
def normalAlikeUptoRow : OpenClaim := { program := "ytfbeepkogcmlmaa", sum := "4b52e083abca23f74166cb3f0562615c32e8f02c26b1a1ee9c0315b972efb1df", func := "accordion/accordionlaw09.NormalAlike", spec := "normalAlike", inPlace := ["internal/bytealg.IndexByteString", "internal/bytealg.abigen_runtime_cmpstring"], unfollowed := true, recurses := true, loops := true, apart := false, narrowed := true }
def NormalAlikeUptoSaid : Prop := normalAlikeUptoRow.holds Try.pinned (OpenSpec.upto normalAlikeSpec)

/-- 'accordionlaw09.NormalTags', WHERE WHAT IT READS IS OF BULK AT MOST 1048576: true; the input reads as it did. -/
def normalTagsUptoRow : OpenClaim := { program := "ytfbeepkogcmlmaa", sum := "4b52e083abca23f74166cb3f0562615c32e8f02c26b1a1ee9c0315b972efb1df", func := "accordion/accordionlaw09.NormalTags", spec := "normalTags", inPlace := ["internal/bytealg.IndexByteString", "internal/bytealg.abigen_runtime_cmpstring"], unfollowed := true, recurses := true, loops := true, apart := false, narrowed := true }
def NormalTagsUptoSaid : Prop := normalTagsUptoRow.holds Try.pinned (OpenSpec.upto normalTagsSpec)

/-- 'accordionlaw09.NormalKnown', WHERE WHAT IT READS IS OF BULK AT MOST 1048576: true; the input reads as it did. -/
def normalKnownUptoRow : OpenClaim := { program := "ytfbeepkogcmlmaa", sum := "4b52e083abca23f74166cb3f0562615c32e8f02c26b1a1ee9c0315b972efb1df", func := "accordion/accordionlaw09.NormalKnown", spec := "normalKnown", inPlace := ["internal/bytealg.IndexByteString", "internal/bytealg.abigen_runtime_cmpstring"], unfollowed := true, recurses := true, apart := false, narrowed := true }
def NormalKnownUptoSaid : Prop := normalKnownUptoRow.holds Try.pinned (OpenSpec.upto normalKnownSpec)

/-- 'accordionlaw09.NormalKinds', WHERE WHAT IT READS IS OF BULK AT MOST 1048576: true; the input reads as it did. -/
def normalKindsUptoRow : OpenClaim := { program := "ytfbeepkogcmlmaa", sum := "4b52e083abca23f74166cb3f0562615c32e8f02c26b1a1ee9c0315b972efb1df", func := "accordion/accordionlaw09.NormalKinds", spec := "normalKinds", inPlace := ["internal/bytealg.IndexByteString", "internal/bytealg.abigen_runtime_cmpstring"], unfollowed := true, recurses := true, loops := true, apart := false, narrowed := true }
def NormalKindsUptoSaid : Prop := normalKindsUptoRow.holds Try.pinned (OpenSpec.upto normalKindsSpec)

/-- 'accordionlaw09.NormalParts', WHERE WHAT IT READS IS OF BULK AT MOST 1048576: true; the input reads as it did. -/
def normalPartsUptoRow : OpenClaim := { program := "ytfbeepkogcmlmaa", sum := "4b52e083abca23f74166cb3f0562615c32e8f02c26b1a1ee9c0315b972efb1df", func := "accordion/accordionlaw09.NormalParts", spec := "normalParts", inPlace := ["internal/bytealg.IndexByteString", "internal/bytealg.abigen_runtime_cmpstring"], unfollowed := true, recurses := true, loops := true, apart := false, narrowed := true }
def NormalPartsUptoSaid : Prop := normalPartsUptoRow.holds Try.pinned (OpenSpec.upto normalPartsSpec)

end Rows
end Go.Proofs.Ytfbeepkogcmlmaa
