/-
  No cell of these rows narrows 'for every input' (looked for: loops, veiled, ifaces, maps, wideKeys, modest, calm, conditions, laid).
  DERIVED. THE GIVEN ROWS OF THIS SEAT. 4 by the template 'for every input the law returns true; each argument reads behind the call as it read before'; 0 by the template 'total and deterministic' (their statements: YtajpbclcfjljnaaTotals.lean).
  GIVEN WITH THE SEED: the statements are not yours to turn. If you find one false, say at which input.
  Laid BY PROGRAM, IN A SANDBOX (cutbox-rows.mjs): the forced cells as the released guide's own fill.sh prints them over the translation d66cf1b1b444eff5… (all of the seat's roots in one cut). By AI agents, Wed Nov 11 2026. No macro, syntax, notation, axiom, sorry.
-/
import Derived.Test.YtajpbclcfjljnaaChecked
import GoSem.Claim
import GoSem.ClaimJoined
import GoSem.ClaimMapViews
import Derived.JoinedTies
import Derived.KernelRfl
namespace Go.Proofs.Ytajpbclcfjljnaa
/- THE CELL 'sum', in the pinned program and in every row, IS THE sha256 OF THE DUMP (.gsa) THAT YtajpbclcfjljnaaProg.lean LOADS. Nothing in Lean hashes anything: it is a label: what it is worth is what the hold of that sum in a sandbox is worth. -/
noncomputable def Try.pinned : Pinned := { name := "ytajpbclcfjljnaa", sum := "d66cf1b1b444eff51b81ebc9d05b9eb1ed40e14cd594fef8893254e6680c7c30", checked := Try.checked }
namespace Rows
def none {H : Type} : Left H := { results := [], args := [] }

/-- 'accordionlaw18.MapsVectors': WHATEVER THE INPUT: true; the input reads as it did. -/
def mapsVectorsSpec : ChangeSpec := { name := "mapsVectors", fn := fun _ => fun
  | [d1, d2] => { results := [.lit (.bool true)], args := [d1, d2] }
  | _ => none }
def mapsVectorsRow : OpenClaim := { program := "ytajpbclcfjljnaa", sum := "d66cf1b1b444eff51b81ebc9d05b9eb1ed40e14cd594fef8893254e6680c7c30", func := "accordion/accordionlaw18.MapsVectors", spec := "mapsVectors", unfollowed := true, recurses := true, plainKeys := false, apart := false }
def MapsVectorsSaid : Prop := mapsVectorsRow.holds Try.pinned (OpenSpec.ofChange mapsVectorsSpec)

/-- ITS FALSE NEIGHBOUR: 'it returns false'. Refute it at one input. -/
def mapsVectorsWrong : ChangeSpec := { name := "mapsVectors", fn := fun _ => fun
  | [d1, d2] => { results := [.lit (.bool false)], args := [d1, d2] }
  | _ => none }
def MapsVectorsWrongFalsely : Prop := mapsVectorsRow.holds Try.pinned (OpenSpec.ofChange mapsVectorsWrong)

/-- 'accordionlaw18.MapsLeast': WHATEVER THE INPUT: true; the input reads as it did. -/
def mapsLeastSpec : ChangeSpec := { name := "mapsLeast", fn := fun _ => fun
  | [d1, d2, d3] => { results := [.lit (.bool true)], args := [d1, d2, d3] }
  | _ => none }
def mapsLeastRow : OpenClaim := { program := "ytajpbclcfjljnaa", sum := "d66cf1b1b444eff51b81ebc9d05b9eb1ed40e14cd594fef8893254e6680c7c30", func := "accordion/accordionlaw18.MapsLeast", spec := "mapsLeast", unfollowed := true, recurses := true, plainKeys := false, apart := false }
def MapsLeastSaid : Prop := mapsLeastRow.holds Try.pinned (OpenSpec.ofChange mapsLeastSpec)

/-- ITS FALSE NEIGHBOUR: 'it returns false'. Refute it at one input. -/
def mapsLeastWrong : ChangeSpec := { name := "mapsLeast", fn := fun _ => fun
  | [d1, d2, d3] => { results := [.lit (.bool false)], args := [d1, d2, d3] }
  | _ => none }
def MapsLeastWrongFalsely : Prop := mapsLeastRow.holds Try.pinned (OpenSpec.ofChange mapsLeastWrong)

/-- 'accordionlaw18.MapsTwice': WHATEVER THE INPUT: true; the input reads as it did. -/
def mapsTwiceSpec : ChangeSpec := { name := "mapsTwice", fn := fun _ => fun
  | [d1, d2] => { results := [.lit (.bool true)], args := [d1, d2] }
  | _ => none }
def mapsTwiceRow : OpenClaim := { program := "ytajpbclcfjljnaa", sum := "d66cf1b1b444eff51b81ebc9d05b9eb1ed40e14cd594fef8893254e6680c7c30", func := "accordion/accordionlaw18.MapsTwice", spec := "mapsTwice", unfollowed := true, recurses := true, plainKeys := false, apart := false }
def MapsTwiceSaid : Prop := mapsTwiceRow.holds Try.pinned (OpenSpec.ofChange mapsTwiceSpec)

/-- ITS FALSE NEIGHBOUR: 'it returns false'. Refute it at one input. -/
def mapsTwiceWrong : ChangeSpec := { name := "mapsTwice", fn := fun _ => fun
  | [d1, d2] => { results := [.lit (.bool false)], args := [d1, d2] }
  | _ => none }
def MapsTwiceWrongFalsely : Prop := mapsTwiceRow.holds Try.pinned (OpenSpec.ofChange mapsTwiceWrong)

/-- 'accordionlaw18.MapsReads': WHATEVER THE INPUT: true; the input reads as it did. -/
def mapsReadsSpec : ChangeSpec := { name := "mapsReads", fn := fun _ => fun
  | [d1, d2, d3] => { results := [.lit (.bool true)], args := [d1, d2, d3] }
  | _ => none }
def mapsReadsRow : OpenClaim := { program := "ytajpbclcfjljnaa", sum := "d66cf1b1b444eff51b81ebc9d05b9eb1ed40e14cd594fef8893254e6680c7c30", func := "accordion/accordionlaw18.MapsReads", spec := "mapsReads", unfollowed := true, recurses := true, plainKeys := false, apart := false }
def MapsReadsSaid : Prop := mapsReadsRow.holds Try.pinned (OpenSpec.ofChange mapsReadsSpec)

/-- ITS FALSE NEIGHBOUR: 'it returns false'. Refute it at one input. -/
def mapsReadsWrong : ChangeSpec := { name := "mapsReads", fn := fun _ => fun
  | [d1, d2, d3] => { results := [.lit (.bool false)], args := [d1, d2, d3] }
  | _ => none }
def MapsReadsWrongFalsely : Prop := mapsReadsRow.holds Try.pinned (OpenSpec.ofChange mapsReadsWrong)

/- THE SECOND FORM. 'bulk': how many values and letters a reading holds, each counted each time it is reached (what is shared counts as often as it is met; a slice's spare places count too). A statement '..UptoSaid' is the law's where the arguments, and the package variables that the reading takes, are together of bulk at most 1048576: NARROWER than '..Said'. Prove '..Said' where nothing that the law and all that it calls make is longer than what came in: it says more and counts as full. Else prove '..UptoSaid'. A law counts once. -/
mutual
def uptoBulk {H : Type} : DataW H → Nat
  | .lit (.string bytes) => bytes.length + 1
  | .lit _ => 1
  | .nil => 1
  | .ptr d => uptoBulk d + 1
  | .slice elems spare => uptoBulkAll elems + uptoBulkAll spare + 1
  | .agg parts => uptoBulkAll parts + 1
  | .iface _ d => uptoBulk d + 1
  | .map entries => uptoBulkEntries entries + 1
  | .held _ => 1
def uptoBulkAll {H : Type} : List (DataW H) → Nat
  | [] => 0
  | d :: r => uptoBulk d + uptoBulkAll r
def uptoBulkEntries {H : Type} : List (Lit × DataW H) → Nat
  | [] => 0
  | x :: r => uptoBulkEntry x + uptoBulkEntries r
def uptoBulkEntry {H : Type} : Lit × DataW H → Nat
  | (.string bytes, d) => bytes.length + uptoBulk d + 1
  | (_, d) => uptoBulk d + 1
 end
def uptoSmall : (H : Type) → List (DataW H) → Bool := fun _ ds => decide (uptoBulkAll ds ≤ 1048576)
def OpenSpec.upto (s : _root_.Go.ChangeSpec) : _root_.Go.OpenSpec := { _root_.Go.OpenSpec.ofChange s with cond := some uptoSmall }

/-- 'accordionlaw18.MapsVectors', WHERE WHAT IT READS IS OF BULK AT MOST 1048576: true; the input reads as it did. -/
def mapsVectorsUptoRow : OpenClaim := { program := "ytajpbclcfjljnaa", sum := "d66cf1b1b444eff51b81ebc9d05b9eb1ed40e14cd594fef8893254e6680c7c30", func := "accordion/accordionlaw18.MapsVectors", spec := "mapsVectors", unfollowed := true, recurses := true, plainKeys := false, apart := false, narrowed := true }
def MapsVectorsUptoSaid : Prop := mapsVectorsUptoRow.holds Try.pinned (OpenSpec.upto mapsVectorsSpec)

/-- 'accordionlaw18.MapsLeast', WHERE WHAT IT READS IS OF BULK AT MOST 1048576: true; the input reads as it did. -/
def mapsLeastUptoRow : OpenClaim := { program := "ytajpbclcfjljnaa", sum := "d66cf1b1b444eff51b81ebc9d05b9eb1ed40e14cd594fef8893254e6680c7c30", func := "accordion/accordionlaw18.MapsLeast", spec := "mapsLeast", unfollowed := true, recurses := true, plainKeys := false, apart := false, narrowed := true }
def MapsLeastUptoSaid : Prop := mapsLeastUptoRow.holds Try.pinned (OpenSpec.upto mapsLeastSpec)

/-- 'accordionlaw18.MapsTwice', WHERE WHAT IT READS IS OF BULK AT MOST 1048576: true; the input reads as it did. -/
def mapsTwiceUptoRow : OpenClaim := { program := "ytajpbclcfjljnaa", sum := "d66cf1b1b444eff51b81ebc9d05b9eb1ed40e14cd594fef8893254e6680c7c30", func := "accordion/accordionlaw18.MapsTwice", spec := "mapsTwice", unfollowed := true, recurses := true, plainKeys := false, apart := false, narrowed := true }
def MapsTwiceUptoSaid : Prop := mapsTwiceUptoRow.holds Try.pinned (OpenSpec.upto mapsTwiceSpec)

/-- 'accordionlaw18.MapsReads', WHERE WHAT IT READS IS OF BULK AT MOST 1048576: true; the input reads as it did. -/
def mapsReadsUptoRow : OpenClaim := { program := "ytajpbclcfjljnaa", sum := "d66cf1b1b444eff51b81ebc9d05b9eb1ed40e14cd594fef8893254e6680c7c30", func := "accordion/accordionlaw18.MapsReads", spec := "mapsReads", unfollowed := true, recurses := true, plainKeys := false, apart := false, narrowed := true }
def MapsReadsUptoSaid : Prop := mapsReadsUptoRow.holds Try.pinned (OpenSpec.upto mapsReadsSpec)

end Rows
end Go.Proofs.Ytajpbclcfjljnaa
