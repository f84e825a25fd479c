/-
  No cell of these rows narrows 'for every input' (looked for: loops, veiled, ifaces, maps, wideKeys, modest, calm, conditions, laid).
  DERIVED. THE GIVEN ROWS OF THIS SEAT. 6 by the template 'for every input the law returns true; each argument reads behind the call as it read before'; 0 by the template 'total and deterministic' (their statements: YtejaklkageieoaaTotals.lean).
  GIVEN WITH THE SEED: the statements are not yours to turn. If you find one false, say at which input.
  Laid BY PROGRAM, IN A SANDBOX (cutbox-rows.mjs): the forced cells as the released guide's own fill.sh prints them over the translation 13436382a619a4a3… (all of the seat's roots in one cut). By AI agents, Wed Nov 11 2026. No macro, syntax, notation, axiom, sorry.
-/
import Derived.Test.YtejaklkageieoaaChecked
import GoSem.Claim
import GoSem.ClaimJoined
import GoSem.ClaimMapViews
import Derived.JoinedTies
import Derived.KernelRfl
namespace Go.Proofs.Ytejaklkageieoaa
/- THE CELL 'sum', in the pinned program and in every row, IS THE sha256 OF THE DUMP (.gsa) THAT YtejaklkageieoaaProg.lean LOADS. Nothing in Lean hashes anything: it is a label: what it is worth is what the hold of that sum in a sandbox is worth. -/
noncomputable def Try.pinned : Pinned := { name := "ytejaklkageieoaa", sum := "13436382a619a4a3023d1edd49fea3bcc3c0af74b9a8cef11e353a5500df73eb", checked := Try.checked }
namespace Rows
def none {H : Type} : Left H := { results := [], args := [] }

/-- 'accordionlaw13.BufPlays': WHATEVER THE INPUT: true; the input reads as it did. -/
def bufPlaysSpec : ChangeSpec := { name := "bufPlays", fn := fun _ => fun
  | [d1, d2] => { results := [.lit (.bool true)], args := [d1, d2] }
  | _ => none }
def bufPlaysRow : OpenClaim := { program := "ytejaklkageieoaa", sum := "13436382a619a4a3023d1edd49fea3bcc3c0af74b9a8cef11e353a5500df73eb", func := "accordion/accordionlaw13.BufPlays", spec := "bufPlays", unfollowed := true, recurses := true, apart := false }
def BufPlaysSaid : Prop := bufPlaysRow.holds Try.pinned (OpenSpec.ofChange bufPlaysSpec)

/-- ITS FALSE NEIGHBOUR: 'it returns false'. Refute it at one input. -/
def bufPlaysWrong : ChangeSpec := { name := "bufPlays", fn := fun _ => fun
  | [d1, d2] => { results := [.lit (.bool false)], args := [d1, d2] }
  | _ => none }
def BufPlaysWrongFalsely : Prop := bufPlaysRow.holds Try.pinned (OpenSpec.ofChange bufPlaysWrong)

/-- 'accordionlaw13.BufStays': WHATEVER THE INPUT: true; the input reads as it did. -/
def bufStaysSpec : ChangeSpec := { name := "bufStays", fn := fun _ => fun
  | [d] => { results := [.lit (.bool true)], args := [d] }
  | _ => none }
def bufStaysRow : OpenClaim := { program := "ytejaklkageieoaa", sum := "13436382a619a4a3023d1edd49fea3bcc3c0af74b9a8cef11e353a5500df73eb", func := "accordion/accordionlaw13.BufStays", spec := "bufStays", unfollowed := true, recurses := true, apart := false }
def BufStaysSaid : Prop := bufStaysRow.holds Try.pinned (OpenSpec.ofChange bufStaysSpec)

/-- ITS FALSE NEIGHBOUR: 'it returns false'. Refute it at one input. -/
def bufStaysWrong : ChangeSpec := { name := "bufStays", fn := fun _ => fun
  | [d] => { results := [.lit (.bool false)], args := [d] }
  | _ => none }
def BufStaysWrongFalsely : Prop := bufStaysRow.holds Try.pinned (OpenSpec.ofChange bufStaysWrong)

/-- 'accordionlaw13.BufCuts': WHATEVER THE INPUT: true; the input reads as it did. -/
def bufCutsSpec : ChangeSpec := { name := "bufCuts", fn := fun _ => fun
  | [d1, d2, d3] => { results := [.lit (.bool true)], args := [d1, d2, d3] }
  | _ => none }
def bufCutsRow : OpenClaim := { program := "ytejaklkageieoaa", sum := "13436382a619a4a3023d1edd49fea3bcc3c0af74b9a8cef11e353a5500df73eb", func := "accordion/accordionlaw13.BufCuts", spec := "bufCuts", unfollowed := true, recurses := true, apart := false }
def BufCutsSaid : Prop := bufCutsRow.holds Try.pinned (OpenSpec.ofChange bufCutsSpec)

/-- ITS FALSE NEIGHBOUR: 'it returns false'. Refute it at one input. -/
def bufCutsWrong : ChangeSpec := { name := "bufCuts", fn := fun _ => fun
  | [d1, d2, d3] => { results := [.lit (.bool false)], args := [d1, d2, d3] }
  | _ => none }
def BufCutsWrongFalsely : Prop := bufCutsRow.holds Try.pinned (OpenSpec.ofChange bufCutsWrong)

/-- 'accordionlaw13.BufRoom': WHATEVER THE INPUT: true; the input reads as it did. -/
def bufRoomSpec : ChangeSpec := { name := "bufRoom", fn := fun _ => fun
  | [d1, d2] => { results := [.lit (.bool true)], args := [d1, d2] }
  | _ => none }
def bufRoomRow : OpenClaim := { program := "ytejaklkageieoaa", sum := "13436382a619a4a3023d1edd49fea3bcc3c0af74b9a8cef11e353a5500df73eb", func := "accordion/accordionlaw13.BufRoom", spec := "bufRoom", unfollowed := true, recurses := true, apart := false }
def BufRoomSaid : Prop := bufRoomRow.holds Try.pinned (OpenSpec.ofChange bufRoomSpec)

/-- ITS FALSE NEIGHBOUR: 'it returns false'. Refute it at one input. -/
def bufRoomWrong : ChangeSpec := { name := "bufRoom", fn := fun _ => fun
  | [d1, d2] => { results := [.lit (.bool false)], args := [d1, d2] }
  | _ => none }
def BufRoomWrongFalsely : Prop := bufRoomRow.holds Try.pinned (OpenSpec.ofChange bufRoomWrong)

/-- 'accordionlaw13.BufNums': WHATEVER THE INPUT: true; the input reads as it did. -/
def bufNumsSpec : ChangeSpec := { name := "bufNums", fn := fun _ => fun
  | [d1, d2, d3] => { results := [.lit (.bool true)], args := [d1, d2, d3] }
  | _ => none }
def bufNumsRow : OpenClaim := { program := "ytejaklkageieoaa", sum := "13436382a619a4a3023d1edd49fea3bcc3c0af74b9a8cef11e353a5500df73eb", func := "accordion/accordionlaw13.BufNums", spec := "bufNums", unfollowed := true, recurses := true, apart := false }
def BufNumsSaid : Prop := bufNumsRow.holds Try.pinned (OpenSpec.ofChange bufNumsSpec)

/-- ITS FALSE NEIGHBOUR: 'it returns false'. Refute it at one input. -/
def bufNumsWrong : ChangeSpec := { name := "bufNums", fn := fun _ => fun
  | [d1, d2, d3] => { results := [.lit (.bool false)], args := [d1, d2, d3] }
  | _ => none }
def BufNumsWrongFalsely : Prop := bufNumsRow.holds Try.pinned (OpenSpec.ofChange bufNumsWrong)

/-- 'accordionlaw13.BufKnown': WHATEVER THE INPUT: true; the input reads as it did. -/
def bufKnownSpec : ChangeSpec := { name := "bufKnown", fn := fun _ => fun
  | [] => { results := [.lit (.bool true)], args := [] }
  | _ => none }
def bufKnownRow : OpenClaim := { program := "ytejaklkageieoaa", sum := "13436382a619a4a3023d1edd49fea3bcc3c0af74b9a8cef11e353a5500df73eb", func := "accordion/accordionlaw13.BufKnown", spec := "bufKnown", inPlace := ["internal/abi.NoEscape", "internal/bytealg.MakeNoZero"], unfollowed := true, recurses := true, apart := false }
def BufKnownSaid : Prop := bufKnownRow.holds Try.pinned (OpenSpec.ofChange bufKnownSpec)

/-- ITS FALSE NEIGHBOUR: 'it returns false'. Refute it at one input. -/
def bufKnownWrong : ChangeSpec := { name := "bufKnown", fn := fun _ => fun
  | [] => { results := [.lit (.bool false)], args := [] }
  | _ => none }
def BufKnownWrongFalsely : Prop := bufKnownRow.holds Try.pinned (OpenSpec.ofChange bufKnownWrong)

/- THE SECOND FORM. 'bulk': how many values and letters a reading holds, each counted each time it is reached (what is shared counts as often as it is met; a slice's spare places count too). A statement '..UptoSaid' is the law's where the arguments, and the package variables that the reading takes, are together of bulk at most 1048576: NARROWER than '..Said'. Prove '..Said' where nothing that the law and all that it calls make is longer than what came in: it says more and counts as full. Else prove '..UptoSaid'. A law counts once. -/
mutual
def uptoBulk {H : Type} : DataW H → Nat
  | .lit (.string bytes) => bytes.length + 1
  | .lit _ => 1
  | .nil => 1
  | .ptr d => uptoBulk d + 1
  | .slice elems spare => uptoBulkAll elems + uptoBulkAll spare + 1
  | .agg parts => uptoBulkAll parts + 1
  | .iface _ d => uptoBulk d + 1
  | .map entries => uptoBulkEntries entries + 1
  | .held _ => 1
def uptoBulkAll {H : Type} : List (DataW H) → Nat
  | [] => 0
  | d :: r => uptoBulk d + uptoBulkAll r
def uptoBulkEntries {H : Type} : List (Lit × DataW H) → Nat
  | [] => 0
  | x :: r => uptoBulkEntry x + uptoBulkEntries r
def uptoBulkEntry {H : Type} : Lit × DataW H → Nat
  | (.string bytes, d) => bytes.length + uptoBulk d + 1
  | (_, d) => uptoBulk d + 1
 end
def uptoSmall : (H : Type) → List (DataW H) → Bool := fun _ ds => decide (uptoBulkAll ds ≤ 1048576)
def OpenSpec.upto (s : _root_.Go.ChangeSpec) : _root_.Go.OpenSpec := { _root_.Go.OpenSpec.ofChange s with cond := some uptoSmall }

/-- 'accordionlaw13.BufPlays', WHERE WHAT IT READS IS OF BULK AT MOST 1048576: true; the input reads as it did. -/
def bufPlaysUptoRow : OpenClaim := { program := "ytejaklkageieoaa", sum := "13436382a619a4a3023d1edd49fea3bcc3c0af74b9a8cef11e353a5500df73eb", func := "accordion/accordionlaw13.BufPlays", spec := "bufPlays", unfollowed := true, recurses := true, apart := false, narrowed := true }
def BufPlaysUptoSaid : Prop := bufPlaysUptoRow.holds Try.pinned (OpenSpec.upto bufPlaysSpec)

/-- 'accordionlaw13.BufStays', WHERE WHAT IT READS IS OF BULK AT MOST 1048576: true; the input reads as it did. -/
def bufStaysUptoRow : OpenClaim := { program := "ytejaklkageieoaa", sum := "13436382a619a4a3023d1edd49fea3bcc3c0af74b9a8cef11e353a5500df73eb", func := "accordion/accordionlaw13.BufStays", spec := "bufStays", unfollowed := true, recurses := true, apart := false, narrowed := true }
def BufStaysUptoSaid : Prop := bufStaysUptoRow.holds Try.pinned (OpenSpec.upto bufStaysSpec)

/-- 'accordionlaw13.BufCuts', WHERE WHAT IT READS IS OF BULK AT MOST 1048576: true; the input reads as it did. -/
def bufCutsUptoRow : OpenClaim := { program := "ytejaklkageieoaa", sum := "13436382a619a4a3023d1edd49fea3bcc3c0af74b9a8cef11e353a5500df73eb", func := "accordion/accordionlaw13.BufCuts", spec := "bufCuts", unfollowed := true, recurses := true, apart := false, narrowed := true }
def BufCutsUptoSaid : Prop := bufCutsUptoRow.holds Try.pinned (OpenSpec.upto bufCutsSpec)

/-- 'accordionlaw13.BufRoom', WHERE WHAT IT READS IS OF BULK AT MOST 1048576: true; the input reads as it did. -/
def bufRoomUptoRow : OpenClaim := { program := "ytejaklkageieoaa", sum := "13436382a619a4a3023d1edd49fea3bcc3c0af74b9a8cef11e353a5500df73eb", func := "accordion/accordionlaw13.BufRoom", spec := "bufRoom", unfollowed := true, recurses := true, apart := false, narrowed := true }
def BufRoomUptoSaid : Prop := bufRoomUptoRow.holds Try.pinned (OpenSpec.upto bufRoomSpec)

/-- 'accordionlaw13.BufNums', WHERE WHAT IT READS IS OF BULK AT MOST 1048576: true; the input reads as it did. -/
def bufNumsUptoRow : OpenClaim := { program := "ytejaklkageieoaa", sum := "13436382a619a4a3023d1edd49fea3bcc3c0af74b9a8cef11e353a5500df73eb", func := "accordion/accordionlaw13.BufNums", spec := "bufNums", unfollowed := true, recurses := true, apart := false, narrowed := true }
def BufNumsUptoSaid : Prop := bufNumsUptoRow.holds Try.pinned (OpenSpec.upto bufNumsSpec)

/-- 'accordionlaw13.BufKnown', WHERE WHAT IT READS IS OF BULK AT MOST 1048576: true; the input reads as it did. -/
def bufKnownUptoRow : OpenClaim := { program := "ytejaklkageieoaa", sum := "13436382a619a4a3023d1edd49fea3bcc3c0af74b9a8cef11e353a5500df73eb", func := "accordion/accordionlaw13.BufKnown", spec := "bufKnown", inPlace := ["internal/abi.NoEscape", "internal/bytealg.MakeNoZero"], unfollowed := true, recurses := true, apart := false, narrowed := true }
def BufKnownUptoSaid : Prop := bufKnownUptoRow.holds Try.pinned (OpenSpec.upto bufKnownSpec)

end Rows
end Go.Proofs.Ytejaklkageieoaa
