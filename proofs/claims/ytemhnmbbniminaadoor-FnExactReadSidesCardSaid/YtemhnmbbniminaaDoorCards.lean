/-
  DERIVED. GIVEN WITH THE SEED: THE CARDS: each row of YtemhnmbbniminaaDoorRows.lean that lists a variable, with what it lists TIED to the program's text (the seventh form; the later family's looks); each row that meets fmt, with fmt's text TOLD by the authors' own Lean function (tested against real Go, not proved from fmt's source: count such statements apart). THE CARD IS WHAT COUNTS. Prove the row's statement (the work); the ties are given (YtemhnmbbniminaaDoorTie.lean); close each card by the builder's one call (the guide's Derived/Test/ToyasCard.lean, 'card_holds'). Laid BY PROGRAM, IN A SANDBOX (cutbox-door.mjs). By AI agents, Wed Nov 11 2026. No macro, syntax, notation, axiom, sorry.
-/
import Derived.Test.YtemhnmbbniminaaDoorRows
import GoSem.ClaimSeven
namespace Go.Proofs.YtemhnmbbniminaaDoor
namespace Rows

/-- THE TIED CARD OF 'laws.FnExactSidesText'. -/
def fnExactSidesTextCard : Claim7 := { stood := { row := fnExactSidesTextRow, standIns := [], harness := (true, "407ef1cd011bf969e9b606291b2ab95adb37491528576bd1436fb833870e741b"), looks := true }, kinds := [], alts := [], laidByText := true, laidKinds := [.data, .data, .data], laidTests := true, laidLooks := .later }
def FnExactSidesTextCardSaid : Prop := Claim7.holds Tryd.pinned (.plain (OpenSpec.ofChange fnExactSidesTextSpec)) fnExactSidesTextCard

/-- THE TIED CARD OF 'laws.FnExactWalkText'. -/
def fnExactWalkTextCard : Claim7 := { stood := { row := fnExactWalkTextRow, standIns := [], harness := (true, "407ef1cd011bf969e9b606291b2ab95adb37491528576bd1436fb833870e741b"), looks := true }, kinds := [], alts := [], laidByText := true, laidKinds := [.data, .data, .data], laidTests := true, laidLooks := .later }
def FnExactWalkTextCardSaid : Prop := Claim7.holds Tryd.pinned (.plain (OpenSpec.ofChange fnExactWalkTextSpec)) fnExactWalkTextCard

/-- THE TIED CARD OF 'laws.FnExactReadSides'. -/
def fnExactReadSidesCard : Claim7 := { stood := { row := fnExactReadSidesRow, standIns := [], harness := (true, "407ef1cd011bf969e9b606291b2ab95adb37491528576bd1436fb833870e741b"), looks := true }, kinds := [], alts := [], laidByText := true, laidKinds := [.data, .data, .data, .data, .sentinel, .sentinel, .pinned], laidTests := true, laidLooks := .later }
def FnExactReadSidesCardSaid : Prop := Claim7.holds Tryd.pinned (.plain (OpenSpec.ofChange fnExactReadSidesSpec)) fnExactReadSidesCard

/-- THE TIED CARD OF 'laws.FnExactReadWalk'. -/
def fnExactReadWalkCard : Claim7 := { stood := { row := fnExactReadWalkRow, standIns := [], harness := (true, "407ef1cd011bf969e9b606291b2ab95adb37491528576bd1436fb833870e741b"), looks := true }, kinds := [], alts := [], laidByText := true, laidKinds := [.data, .data, .data, .data, .sentinel, .sentinel, .pinned], laidTests := true, laidLooks := .later }
def FnExactReadWalkCardSaid : Prop := Claim7.holds Tryd.pinned (.plain (OpenSpec.ofChange fnExactReadWalkSpec)) fnExactReadWalkCard

/-- THE SECOND FORM's CARD OF 'laws.FnExactSidesText'. -/
def fnExactSidesTextUptoCard : Claim7 := { stood := { row := fnExactSidesTextUptoRow, standIns := [], harness := (true, "407ef1cd011bf969e9b606291b2ab95adb37491528576bd1436fb833870e741b"), looks := true }, kinds := [], alts := [], laidByText := true, laidKinds := [.data, .data, .data], laidTests := true, laidLooks := .later }
def FnExactSidesTextUptoCardSaid : Prop := Claim7.holds Tryd.pinned (.plain (OpenSpec.upto fnExactSidesTextSpec)) fnExactSidesTextUptoCard

/-- THE SECOND FORM's CARD OF 'laws.FnExactWalkText'. -/
def fnExactWalkTextUptoCard : Claim7 := { stood := { row := fnExactWalkTextUptoRow, standIns := [], harness := (true, "407ef1cd011bf969e9b606291b2ab95adb37491528576bd1436fb833870e741b"), looks := true }, kinds := [], alts := [], laidByText := true, laidKinds := [.data, .data, .data], laidTests := true, laidLooks := .later }
def FnExactWalkTextUptoCardSaid : Prop := Claim7.holds Tryd.pinned (.plain (OpenSpec.upto fnExactWalkTextSpec)) fnExactWalkTextUptoCard

/-- THE SECOND FORM's CARD OF 'laws.FnExactReadSides'. -/
def fnExactReadSidesUptoCard : Claim7 := { stood := { row := fnExactReadSidesUptoRow, standIns := [], harness := (true, "407ef1cd011bf969e9b606291b2ab95adb37491528576bd1436fb833870e741b"), looks := true }, kinds := [], alts := [], laidByText := true, laidKinds := [.data, .data, .data, .data, .sentinel, .sentinel, .pinned], laidTests := true, laidLooks := .later }
def FnExactReadSidesUptoCardSaid : Prop := Claim7.holds Tryd.pinned (.plain (OpenSpec.upto fnExactReadSidesSpec)) fnExactReadSidesUptoCard

/-- THE SECOND FORM's CARD OF 'laws.FnExactReadWalk'. -/
def fnExactReadWalkUptoCard : Claim7 := { stood := { row := fnExactReadWalkUptoRow, standIns := [], harness := (true, "407ef1cd011bf969e9b606291b2ab95adb37491528576bd1436fb833870e741b"), looks := true }, kinds := [], alts := [], laidByText := true, laidKinds := [.data, .data, .data, .data, .sentinel, .sentinel, .pinned], laidTests := true, laidLooks := .later }
def FnExactReadWalkUptoCardSaid : Prop := Claim7.holds Tryd.pinned (.plain (OpenSpec.upto fnExactReadWalkSpec)) fnExactReadWalkUptoCard
end Rows
end Go.Proofs.YtemhnmbbniminaaDoor
