/-
  DERIVED. GIVEN WITH THE SEED: THE CARDS: each row of YthedepnndgemeaaDoorRows.lean that lists a variable, with what it lists TIED to the program's text (the seventh form; the later family's looks); each row that meets fmt, with fmt's text TOLD by the authors' own Lean function (tested against real Go, not proved from fmt's source: count such statements apart). THE CARD IS WHAT COUNTS. Prove the row's statement (the work); the ties are given (YthedepnndgemeaaDoorTie.lean); close each card by the builder's one call (the guide's Derived/Test/ToyasCard.lean, 'card_holds'). Laid BY PROGRAM, IN A SANDBOX (cutbox-door.mjs). By AI agents, Wed Nov 11 2026. No macro, syntax, notation, axiom, sorry.
-/
import Derived.Test.YthedepnndgemeaaDoorRows
import GoSem.ClaimSeven
namespace Go.Proofs.YthedepnndgemeaaDoor
namespace Rows

/-- THE TIED CARD OF 'laws.FnExactReadDecimal'. -/
def fnExactReadDecimalCard : Claim7 := { stood := { row := fnExactReadDecimalRow, standIns := [], harness := (true, "2dbee5de7c82d41347ed3e2ee283347f16e5ddebca284c7e0ce2cdc9810bb098"), looks := true }, kinds := [], alts := [], laidByText := true, laidKinds := [.data, .data, .data, .sentinel, .sentinel], laidTests := true, laidLooks := .later }
def FnExactReadDecimalCardSaid : Prop := Claim7.holds Tryd.pinned (.plain (OpenSpec.ofChange fnExactReadDecimalSpec)) fnExactReadDecimalCard

/-- THE TIED CARD OF 'laws.FnExactReadHour'. -/
def fnExactReadHourCard : Claim7 := { stood := { row := fnExactReadHourRow, standIns := [], harness := (true, "2dbee5de7c82d41347ed3e2ee283347f16e5ddebca284c7e0ce2cdc9810bb098"), looks := true }, kinds := [], alts := [], laidByText := true, laidKinds := [.data, .data, .data, .sentinel, .sentinel], laidTests := true, laidLooks := .later }
def FnExactReadHourCardSaid : Prop := Claim7.holds Tryd.pinned (.plain (OpenSpec.ofChange fnExactReadHourSpec)) fnExactReadHourCard

/-- THE TIED CARD OF 'laws.FnExactReadSpot'. -/
def fnExactReadSpotCard : Claim7 := { stood := { row := fnExactReadSpotRow, standIns := [], harness := (true, "2dbee5de7c82d41347ed3e2ee283347f16e5ddebca284c7e0ce2cdc9810bb098"), looks := true }, kinds := [], alts := [], laidByText := true, laidKinds := [.data, .data, .data, .data, .sentinel, .sentinel, .pinned], laidTests := true, laidLooks := .later }
def FnExactReadSpotCardSaid : Prop := Claim7.holds Tryd.pinned (.plain (OpenSpec.ofChange fnExactReadSpotSpec)) fnExactReadSpotCard

/-- THE TIED CARD OF 'laws.FnAngleTexts'. -/
def fnAngleTextsCard : Claim7 := { stood := { row := fnAngleTextsRow, standIns := [], harness := (true, "2dbee5de7c82d41347ed3e2ee283347f16e5ddebca284c7e0ce2cdc9810bb098"), looks := true }, kinds := [], alts := [], laidByText := true, laidKinds := [.data, .data, .data, .data, .sentinel, .sentinel, .pinned], laidTests := true, laidLooks := .later }
def FnAngleTextsCardSaid : Prop := Claim7.holds Tryd.pinned (.plain (OpenSpec.ofChange fnAngleTextsSpec)) fnAngleTextsCard

/-- THE SECOND FORM's CARD OF 'laws.FnExactReadDecimal'. -/
def fnExactReadDecimalUptoCard : Claim7 := { stood := { row := fnExactReadDecimalUptoRow, standIns := [], harness := (true, "2dbee5de7c82d41347ed3e2ee283347f16e5ddebca284c7e0ce2cdc9810bb098"), looks := true }, kinds := [], alts := [], laidByText := true, laidKinds := [.data, .data, .data, .sentinel, .sentinel], laidTests := true, laidLooks := .later }
def FnExactReadDecimalUptoCardSaid : Prop := Claim7.holds Tryd.pinned (.plain (OpenSpec.upto fnExactReadDecimalSpec)) fnExactReadDecimalUptoCard

/-- THE SECOND FORM's CARD OF 'laws.FnExactReadHour'. -/
def fnExactReadHourUptoCard : Claim7 := { stood := { row := fnExactReadHourUptoRow, standIns := [], harness := (true, "2dbee5de7c82d41347ed3e2ee283347f16e5ddebca284c7e0ce2cdc9810bb098"), looks := true }, kinds := [], alts := [], laidByText := true, laidKinds := [.data, .data, .data, .sentinel, .sentinel], laidTests := true, laidLooks := .later }
def FnExactReadHourUptoCardSaid : Prop := Claim7.holds Tryd.pinned (.plain (OpenSpec.upto fnExactReadHourSpec)) fnExactReadHourUptoCard

/-- THE SECOND FORM's CARD OF 'laws.FnExactReadSpot'. -/
def fnExactReadSpotUptoCard : Claim7 := { stood := { row := fnExactReadSpotUptoRow, standIns := [], harness := (true, "2dbee5de7c82d41347ed3e2ee283347f16e5ddebca284c7e0ce2cdc9810bb098"), looks := true }, kinds := [], alts := [], laidByText := true, laidKinds := [.data, .data, .data, .data, .sentinel, .sentinel, .pinned], laidTests := true, laidLooks := .later }
def FnExactReadSpotUptoCardSaid : Prop := Claim7.holds Tryd.pinned (.plain (OpenSpec.upto fnExactReadSpotSpec)) fnExactReadSpotUptoCard

/-- THE SECOND FORM's CARD OF 'laws.FnAngleTexts'. -/
def fnAngleTextsUptoCard : Claim7 := { stood := { row := fnAngleTextsUptoRow, standIns := [], harness := (true, "2dbee5de7c82d41347ed3e2ee283347f16e5ddebca284c7e0ce2cdc9810bb098"), looks := true }, kinds := [], alts := [], laidByText := true, laidKinds := [.data, .data, .data, .data, .sentinel, .sentinel, .pinned], laidTests := true, laidLooks := .later }
def FnAngleTextsUptoCardSaid : Prop := Claim7.holds Tryd.pinned (.plain (OpenSpec.upto fnAngleTextsSpec)) fnAngleTextsUptoCard
end Rows
end Go.Proofs.YthedepnndgemeaaDoor
