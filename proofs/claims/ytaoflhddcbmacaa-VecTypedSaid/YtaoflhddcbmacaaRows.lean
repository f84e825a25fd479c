/-
  No cell of these rows narrows 'for every input' (looked for: loops, veiled, ifaces, maps, wideKeys, modest, calm, conditions, laid).
  DERIVED. THE GIVEN ROWS OF THIS SEAT. 5 by the template 'for every input the law returns true; each argument reads behind the call as it read before'; 0 by the template 'total and deterministic' (their statements: YtaoflhddcbmacaaTotals.lean).
  GIVEN WITH THE SEED: the statements are not yours to turn. If you find one false, say at which input.
  Laid BY PROGRAM, IN A SANDBOX (cutbox-rows.mjs): the forced cells as the released guide's own fill.sh prints them over the translation 85067ed6bd9f1d8e… (all of the seat's roots in one cut). By AI agents, Wed Nov 11 2026. No macro, syntax, notation, axiom, sorry.
-/
import Derived.Test.YtaoflhddcbmacaaChecked
import GoSem.Claim
import GoSem.ClaimJoined
import GoSem.ClaimMapViews
import Derived.JoinedTies
import Derived.KernelRfl
namespace Go.Proofs.Ytaoflhddcbmacaa
/- THE CELL 'sum', in the pinned program and in every row, IS THE sha256 OF THE DUMP (.gsa) THAT YtaoflhddcbmacaaProg.lean LOADS. Nothing in Lean hashes anything: it is a label: what it is worth is what the hold of that sum in a sandbox is worth. -/
noncomputable def Try.pinned : Pinned := { name := "ytaoflhddcbmacaa", sum := "85067ed6bd9f1d8e5d33fdedac64d420295e86d0fa5a11b068d3e83bc20eb0de", checked := Try.checked }
namespace Rows
def none {H : Type} : Left H := { results := [], args := [] }

/-- 'accordionlaw17.VecLeast': WHATEVER THE INPUT: true; the input reads as it did. -/
def vecLeastSpec : ChangeSpec := { name := "vecLeast", fn := fun _ => fun
  | [d1, d2] => { results := [.lit (.bool true)], args := [d1, d2] }
  | _ => none }
def vecLeastRow : OpenClaim := { program := "ytaoflhddcbmacaa", sum := "85067ed6bd9f1d8e5d33fdedac64d420295e86d0fa5a11b068d3e83bc20eb0de", func := "accordion/accordionlaw17.VecLeast", spec := "vecLeast", unfollowed := true, recurses := true, plainKeys := false, apart := false }
def VecLeastSaid : Prop := vecLeastRow.holds Try.pinned (OpenSpec.ofChange vecLeastSpec)

/-- ITS FALSE NEIGHBOUR: 'it returns false'. Refute it at one input. -/
def vecLeastWrong : ChangeSpec := { name := "vecLeast", fn := fun _ => fun
  | [d1, d2] => { results := [.lit (.bool false)], args := [d1, d2] }
  | _ => none }
def VecLeastWrongFalsely : Prop := vecLeastRow.holds Try.pinned (OpenSpec.ofChange vecLeastWrong)

/-- 'accordionlaw17.VecTyped': WHATEVER THE INPUT: true; the input reads as it did. -/
def vecTypedSpec : ChangeSpec := { name := "vecTyped", fn := fun _ => fun
  | [d1, d2, d3] => { results := [.lit (.bool true)], args := [d1, d2, d3] }
  | _ => none }
def vecTypedRow : OpenClaim := { program := "ytaoflhddcbmacaa", sum := "85067ed6bd9f1d8e5d33fdedac64d420295e86d0fa5a11b068d3e83bc20eb0de", func := "accordion/accordionlaw17.VecTyped", spec := "vecTyped", unfollowed := true, recurses := true, plainKeys := false, apart := false }
def VecTypedSaid : Prop := vecTypedRow.holds Try.pinned (OpenSpec.ofChange vecTypedSpec)

/-- ITS FALSE NEIGHBOUR: 'it returns false'. Refute it at one input. -/
def vecTypedWrong : ChangeSpec := { name := "vecTyped", fn := fun _ => fun
  | [d1, d2, d3] => { results := [.lit (.bool false)], args := [d1, d2, d3] }
  | _ => none }
def VecTypedWrongFalsely : Prop := vecTypedRow.holds Try.pinned (OpenSpec.ofChange vecTypedWrong)

/-- 'accordionlaw17.VecRoom': WHATEVER THE INPUT: true; the input reads as it did. -/
def vecRoomSpec : ChangeSpec := { name := "vecRoom", fn := fun _ => fun
  | [d1, d2] => { results := [.lit (.bool true)], args := [d1, d2] }
  | _ => none }
def vecRoomRow : OpenClaim := { program := "ytaoflhddcbmacaa", sum := "85067ed6bd9f1d8e5d33fdedac64d420295e86d0fa5a11b068d3e83bc20eb0de", func := "accordion/accordionlaw17.VecRoom", spec := "vecRoom", unfollowed := true, recurses := true, plainKeys := false, apart := false }
def VecRoomSaid : Prop := vecRoomRow.holds Try.pinned (OpenSpec.ofChange vecRoomSpec)

/-- ITS FALSE NEIGHBOUR: 'it returns false'. Refute it at one input. -/
def vecRoomWrong : ChangeSpec := { name := "vecRoom", fn := fun _ => fun
  | [d1, d2] => { results := [.lit (.bool false)], args := [d1, d2] }
  | _ => none }
def VecRoomWrongFalsely : Prop := vecRoomRow.holds Try.pinned (OpenSpec.ofChange vecRoomWrong)

/-- 'accordionlaw17.VecApart': WHATEVER THE INPUT: true; the input reads as it did. -/
def vecApartSpec : ChangeSpec := { name := "vecApart", fn := fun _ => fun
  | [d1, d2] => { results := [.lit (.bool true)], args := [d1, d2] }
  | _ => none }
def vecApartRow : OpenClaim := { program := "ytaoflhddcbmacaa", sum := "85067ed6bd9f1d8e5d33fdedac64d420295e86d0fa5a11b068d3e83bc20eb0de", func := "accordion/accordionlaw17.VecApart", spec := "vecApart", unfollowed := true, recurses := true, plainKeys := false, apart := false }
def VecApartSaid : Prop := vecApartRow.holds Try.pinned (OpenSpec.ofChange vecApartSpec)

/-- ITS FALSE NEIGHBOUR: 'it returns false'. Refute it at one input. -/
def vecApartWrong : ChangeSpec := { name := "vecApart", fn := fun _ => fun
  | [d1, d2] => { results := [.lit (.bool false)], args := [d1, d2] }
  | _ => none }
def VecApartWrongFalsely : Prop := vecApartRow.holds Try.pinned (OpenSpec.ofChange vecApartWrong)

/-- 'accordionlaw17.VecReads': WHATEVER THE INPUT: true; the input reads as it did. -/
def vecReadsSpec : ChangeSpec := { name := "vecReads", fn := fun _ => fun
  | [d1, d2] => { results := [.lit (.bool true)], args := [d1, d2] }
  | _ => none }
def vecReadsRow : OpenClaim := { program := "ytaoflhddcbmacaa", sum := "85067ed6bd9f1d8e5d33fdedac64d420295e86d0fa5a11b068d3e83bc20eb0de", func := "accordion/accordionlaw17.VecReads", spec := "vecReads", unfollowed := true, recurses := true, plainKeys := false, apart := false }
def VecReadsSaid : Prop := vecReadsRow.holds Try.pinned (OpenSpec.ofChange vecReadsSpec)

/-- ITS FALSE NEIGHBOUR: 'it returns false'. Refute it at one input. -/
def vecReadsWrong : ChangeSpec := { name := "vecReads", fn := fun _ => fun
  | [d1, d2] => { results := [.lit (.bool false)], args := [d1, d2] }
  | _ => none }
def VecReadsWrongFalsely : Prop := vecReadsRow.holds Try.pinned (OpenSpec.ofChange vecReadsWrong)

/- THE SECOND FORM. 'bulk': how many values and letters a reading holds, each counted each time it is reached (what is shared counts as often as it is met; a slice's spare places count too). A statement '..UptoSaid' is the law's where the arguments, and the package variables that the reading takes, are together of bulk at most 1048576: NARROWER than '..Said'. Prove '..Said' where nothing that the law and all that it calls make is longer than what came in: it says more and counts as full. Else prove '..UptoSaid'. A law counts once. -/
mutual
def uptoBulk {H : Type} : DataW H → Nat
  | .lit (.string bytes) => bytes.length + 1
  | .lit _ => 1
  | .nil => 1
  | .ptr d => uptoBulk d + 1
  | .slice elems spare => uptoBulkAll elems + uptoBulkAll spare + 1
  | .agg parts => uptoBulkAll parts + 1
  | .iface _ d => uptoBulk d + 1
  | .map entries => uptoBulkEntries entries + 1
  | .held _ => 1
def uptoBulkAll {H : Type} : List (DataW H) → Nat
  | [] => 0
  | d :: r => uptoBulk d + uptoBulkAll r
def uptoBulkEntries {H : Type} : List (Lit × DataW H) → Nat
  | [] => 0
  | x :: r => uptoBulkEntry x + uptoBulkEntries r
def uptoBulkEntry {H : Type} : Lit × DataW H → Nat
  | (.string bytes, d) => bytes.length + uptoBulk d + 1
  | (_, d) => uptoBulk d + 1
 end
def uptoSmall : (H : Type) → List (DataW H) → Bool := fun _ ds => decide (uptoBulkAll ds ≤ 1048576)
def OpenSpec.upto (s : _root_.Go.ChangeSpec) : _root_.Go.OpenSpec := { _root_.Go.OpenSpec.ofChange s with cond := some uptoSmall }

/-- 'accordionlaw17.VecLeast', WHERE WHAT IT READS IS OF BULK AT MOST 1048576: true; the input reads as it did. -/
def vecLeastUptoRow : OpenClaim := { program := "ytaoflhddcbmacaa", sum := "85067ed6bd9f1d8e5d33fdedac64d420295e86d0fa5a11b068d3e83bc20eb0de", func := "accordion/accordionlaw17.VecLeast", spec := "vecLeast", unfollowed := true, recurses := true, plainKeys := false, apart := false, narrowed := true }
def VecLeastUptoSaid : Prop := vecLeastUptoRow.holds Try.pinned (OpenSpec.upto vecLeastSpec)

/-- 'accordionlaw17.VecTyped', WHERE WHAT IT READS IS OF BULK AT MOST 1048576: true; the input reads as it did. -/
def vecTypedUptoRow : OpenClaim := { program := "ytaoflhddcbmacaa", sum := "85067ed6bd9f1d8e5d33fdedac64d420295e86d0fa5a11b068d3e83bc20eb0de", func := "accordion/accordionlaw17.VecTyped", spec := "vecTyped", unfollowed := true, recurses := true, plainKeys := false, apart := false, narrowed := true }
def VecTypedUptoSaid : Prop := vecTypedUptoRow.holds Try.pinned (OpenSpec.upto vecTypedSpec)

/-- 'accordionlaw17.VecRoom', WHERE WHAT IT READS IS OF BULK AT MOST 1048576: true; the input reads as it did. -/
def vecRoomUptoRow : OpenClaim := { program := "ytaoflhddcbmacaa", sum := "85067ed6bd9f1d8e5d33fdedac64d420295e86d0fa5a11b068d3e83bc20eb0de", func := "accordion/accordionlaw17.VecRoom", spec := "vecRoom", unfollowed := true, recurses := true, plainKeys := false, apart := false, narrowed := true }
def VecRoomUptoSaid : Prop := vecRoomUptoRow.holds Try.pinned (OpenSpec.upto vecRoomSpec)

/-- 'accordionlaw17.VecApart', WHERE WHAT IT READS IS OF BULK AT MOST 1048576: true; the input reads as it did. -/
def vecApartUptoRow : OpenClaim := { program := "ytaoflhddcbmacaa", sum := "85067ed6bd9f1d8e5d33fdedac64d420295e86d0fa5a11b068d3e83bc20eb0de", func := "accordion/accordionlaw17.VecApart", spec := "vecApart", unfollowed := true, recurses := true, plainKeys := false, apart := false, narrowed := true }
def VecApartUptoSaid : Prop := vecApartUptoRow.holds Try.pinned (OpenSpec.upto vecApartSpec)

/-- 'accordionlaw17.VecReads', WHERE WHAT IT READS IS OF BULK AT MOST 1048576: true; the input reads as it did. -/
def vecReadsUptoRow : OpenClaim := { program := "ytaoflhddcbmacaa", sum := "85067ed6bd9f1d8e5d33fdedac64d420295e86d0fa5a11b068d3e83bc20eb0de", func := "accordion/accordionlaw17.VecReads", spec := "vecReads", unfollowed := true, recurses := true, plainKeys := false, apart := false, narrowed := true }
def VecReadsUptoSaid : Prop := vecReadsUptoRow.holds Try.pinned (OpenSpec.upto vecReadsSpec)

end Rows
end Go.Proofs.Ytaoflhddcbmacaa
