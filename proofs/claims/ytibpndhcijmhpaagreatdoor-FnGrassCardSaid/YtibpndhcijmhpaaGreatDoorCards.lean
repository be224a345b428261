/-
  DERIVED. GIVEN WITH THE SEED: THE CARDS: each row of YtibpndhcijmhpaaGreatDoorRows.lean that lists a variable, with what it lists TIED to the program's text (the seventh form; the later family's looks); each row that meets fmt, with fmt's text TOLD by the authors' own Lean function (tested against real Go, not proved from fmt's source: count such statements apart). THE CARD IS WHAT COUNTS. Prove the row's statement (the work); the ties are given (YtibpndhcijmhpaaGreatDoorTie.lean); close each card by the builder's one call (the guide's Derived/Test/ToyasCard.lean, 'card_holds'). Laid BY PROGRAM, IN A SANDBOX (cutbox-door.mjs). By AI agents, Wed Nov 11 2026. No macro, syntax, notation, axiom, sorry.
-/
import Derived.Test.YtibpndhcijmhpaaGreatDoorRows
import GoSem.ClaimSeven
namespace Go.Proofs.YtibpndhcijmhpaaGreatDoor
namespace Rows

/-- THE TIED CARD OF 'laws.FnGrass'. -/
def fnGrassCard : Claim7 := { stood := { row := fnGrassRow, standIns := [], harness := (true, "8502c6459cc23482f0c2837bbd170148cab190a434ded3b7742cbe39ced74cd7"), looks := true }, kinds := [], alts := [], laidByText := true, laidKinds := [.data, .data, .data, .data, .sentinel, .sentinel, .pinned], laidTests := true, laidLooks := .later }
def FnGrassCardSaid : Prop := Claim7.holds Tryz.pinned (.plain (OpenSpec.ofChange fnGrassSpec)) fnGrassCard

/-- THE SECOND FORM's CARD OF 'laws.FnGrass'. -/
def fnGrassUptoCard : Claim7 := { stood := { row := fnGrassUptoRow, standIns := [], harness := (true, "8502c6459cc23482f0c2837bbd170148cab190a434ded3b7742cbe39ced74cd7"), looks := true }, kinds := [], alts := [], laidByText := true, laidKinds := [.data, .data, .data, .data, .sentinel, .sentinel, .pinned], laidTests := true, laidLooks := .later }
def FnGrassUptoCardSaid : Prop := Claim7.holds Tryz.pinned (.plain (OpenSpec.upto fnGrassSpec)) fnGrassUptoCard
end Rows
end Go.Proofs.YtibpndhcijmhpaaGreatDoor
