/-
  DERIVED. GIVEN WITH THE SEED: THE CARDS: each row of YtjnpcddbgfmpcaaGreatDoorRows.lean that lists a variable, with what it lists TIED to the program's text (the seventh form; the later family's looks); each row that meets fmt, with fmt's text TOLD by the authors' own Lean function (tested against real Go, not proved from fmt's source: count such statements apart). THE CARD IS WHAT COUNTS. Prove the row's statement (the work); the ties are given (YtjnpcddbgfmpcaaGreatDoorTie.lean); close each card by the builder's one call (the guide's Derived/Test/ToyasCard.lean, 'card_holds'). Laid BY PROGRAM, IN A SANDBOX (cutbox-door.mjs). By AI agents, Wed Nov 11 2026. No macro, syntax, notation, axiom, sorry.
-/
import Derived.Test.YtjnpcddbgfmpcaaGreatDoorRows
import GoSem.ClaimSeven
namespace Go.Proofs.YtjnpcddbgfmpcaaGreatDoor
namespace Rows

/-- THE TIED CARD OF 'accordionlaw19.BuildLists'. -/
def buildListsCard : Claim7 := { stood := { row := buildListsRow, standIns := [], harness := (true, "d81d32618a3a4e4822f4d76c9ec7165dbf69d5538a2618c826381d2c86183b9d"), looks := false }, kinds := [], alts := [], laidByText := true, laidKinds := [.data, .pinned], laidTests := true, laidLooks := .later }
def BuildListsCardSaid : Prop := Claim7.holds Tryz.pinned (.plain (OpenSpec.ofChange buildListsSpec)) buildListsCard

/-- THE TIED CARD OF 'accordionlaw19.BuildMaps'. -/
def buildMapsCard : Claim7 := { stood := { row := buildMapsRow, standIns := [], harness := (true, "d81d32618a3a4e4822f4d76c9ec7165dbf69d5538a2618c826381d2c86183b9d"), looks := false }, kinds := [], alts := [], laidByText := true, laidKinds := [.data, .pinned], laidTests := true, laidLooks := .later }
def BuildMapsCardSaid : Prop := Claim7.holds Tryz.pinned (.plain (OpenSpec.ofChange buildMapsSpec)) buildMapsCard

/-- THE TIED CARD OF 'accordionlaw19.BuildKeys'. -/
def buildKeysCard : Claim7 := { stood := { row := buildKeysRow, standIns := [], harness := (true, "d81d32618a3a4e4822f4d76c9ec7165dbf69d5538a2618c826381d2c86183b9d"), looks := false }, kinds := [], alts := [], laidByText := true, laidKinds := [.data, .pinned], laidTests := true, laidLooks := .later }
def BuildKeysCardSaid : Prop := Claim7.holds Tryz.pinned (.plain (OpenSpec.ofChange buildKeysSpec)) buildKeysCard

/-- THE SECOND FORM's CARD OF 'accordionlaw19.BuildLists'. -/
def buildListsUptoCard : Claim7 := { stood := { row := buildListsUptoRow, standIns := [], harness := (true, "d81d32618a3a4e4822f4d76c9ec7165dbf69d5538a2618c826381d2c86183b9d"), looks := false }, kinds := [], alts := [], laidByText := true, laidKinds := [.data, .pinned], laidTests := true, laidLooks := .later }
def BuildListsUptoCardSaid : Prop := Claim7.holds Tryz.pinned (.plain (OpenSpec.upto buildListsSpec)) buildListsUptoCard

/-- THE SECOND FORM's CARD OF 'accordionlaw19.BuildMaps'. -/
def buildMapsUptoCard : Claim7 := { stood := { row := buildMapsUptoRow, standIns := [], harness := (true, "d81d32618a3a4e4822f4d76c9ec7165dbf69d5538a2618c826381d2c86183b9d"), looks := false }, kinds := [], alts := [], laidByText := true, laidKinds := [.data, .pinned], laidTests := true, laidLooks := .later }
def BuildMapsUptoCardSaid : Prop := Claim7.holds Tryz.pinned (.plain (OpenSpec.upto buildMapsSpec)) buildMapsUptoCard

/-- THE SECOND FORM's CARD OF 'accordionlaw19.BuildKeys'. -/
def buildKeysUptoCard : Claim7 := { stood := { row := buildKeysUptoRow, standIns := [], harness := (true, "d81d32618a3a4e4822f4d76c9ec7165dbf69d5538a2618c826381d2c86183b9d"), looks := false }, kinds := [], alts := [], laidByText := true, laidKinds := [.data, .pinned], laidTests := true, laidLooks := .later }
def BuildKeysUptoCardSaid : Prop := Claim7.holds Tryz.pinned (.plain (OpenSpec.upto buildKeysSpec)) buildKeysUptoCard
end Rows
end Go.Proofs.YtjnpcddbgfmpcaaGreatDoor
