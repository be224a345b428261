/-
  DERIVED. GIVEN WITH THE SEED: THE CARDS: each row of YtkebohpfneiimaaDoorRows.lean that lists a variable, with what it lists TIED to the program's text (the seventh form; the later family's looks); each row that meets fmt, with fmt's text TOLD by the authors' own Lean function (tested against real Go, not proved from fmt's source: count such statements apart). THE CARD IS WHAT COUNTS. Prove the row's statement (the work); the ties are given (YtkebohpfneiimaaDoorTie.lean); close each card by the builder's one call (the guide's Derived/Test/ToyasCard.lean, 'card_holds'). Laid BY PROGRAM, IN A SANDBOX (cutbox-door.mjs). By AI agents, Wed Nov 11 2026. No macro, syntax, notation, axiom, sorry.
-/
import Derived.Test.YtkebohpfneiimaaDoorRows
import GoSem.ClaimSeven
namespace Go.Proofs.YtkebohpfneiimaaDoor
namespace Rows

/-- THE TIED CARD OF 'laws.FnExactWeatherText'. -/
def fnExactWeatherTextCard : Claim7 := { stood := { row := fnExactWeatherTextRow, standIns := [], harness := (true, "581b6374fb947342b3e0243cfbc919edd3a16276b9ea2b0cc6580c4f362495d9"), looks := true }, kinds := [], alts := [], laidByText := true, laidKinds := [.data, .data, .data], laidTests := true, laidLooks := .later }
def FnExactWeatherTextCardSaid : Prop := Claim7.holds Tryd.pinned (.plain (OpenSpec.ofChange fnExactWeatherTextSpec)) fnExactWeatherTextCard

/-- THE TIED CARD OF 'laws.FnExactReadWeather'. -/
def fnExactReadWeatherCard : Claim7 := { stood := { row := fnExactReadWeatherRow, standIns := [], harness := (true, "581b6374fb947342b3e0243cfbc919edd3a16276b9ea2b0cc6580c4f362495d9"), looks := true }, kinds := [], alts := [], laidByText := true, laidKinds := [.data, .data, .data, .data, .sentinel, .sentinel, .pinned], laidTests := true, laidLooks := .later }
def FnExactReadWeatherCardSaid : Prop := Claim7.holds Tryd.pinned (.plain (OpenSpec.ofChange fnExactReadWeatherSpec)) fnExactReadWeatherCard

/-- THE SECOND FORM's CARD OF 'laws.FnExactWeatherText'. -/
def fnExactWeatherTextUptoCard : Claim7 := { stood := { row := fnExactWeatherTextUptoRow, standIns := [], harness := (true, "581b6374fb947342b3e0243cfbc919edd3a16276b9ea2b0cc6580c4f362495d9"), looks := true }, kinds := [], alts := [], laidByText := true, laidKinds := [.data, .data, .data], laidTests := true, laidLooks := .later }
def FnExactWeatherTextUptoCardSaid : Prop := Claim7.holds Tryd.pinned (.plain (OpenSpec.upto fnExactWeatherTextSpec)) fnExactWeatherTextUptoCard

/-- THE SECOND FORM's CARD OF 'laws.FnExactReadWeather'. -/
def fnExactReadWeatherUptoCard : Claim7 := { stood := { row := fnExactReadWeatherUptoRow, standIns := [], harness := (true, "581b6374fb947342b3e0243cfbc919edd3a16276b9ea2b0cc6580c4f362495d9"), looks := true }, kinds := [], alts := [], laidByText := true, laidKinds := [.data, .data, .data, .data, .sentinel, .sentinel, .pinned], laidTests := true, laidLooks := .later }
def FnExactReadWeatherUptoCardSaid : Prop := Claim7.holds Tryd.pinned (.plain (OpenSpec.upto fnExactReadWeatherSpec)) fnExactReadWeatherUptoCard
end Rows
end Go.Proofs.YtkebohpfneiimaaDoor
