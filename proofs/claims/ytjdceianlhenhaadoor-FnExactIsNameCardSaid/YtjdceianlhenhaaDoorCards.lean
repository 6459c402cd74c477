/-
  DERIVED. GIVEN WITH THE SEED: THE CARDS: each row of YtjdceianlhenhaaDoorRows.lean that lists a variable, with what it lists TIED to the program's text (the seventh form; the later family's looks); each row that meets fmt, with fmt's text TOLD by the authors' own Lean function (tested against real Go, not proved from fmt's source: count such statements apart). THE CARD IS WHAT COUNTS. Prove the row's statement (the work); the ties are given (YtjdceianlhenhaaDoorTie.lean); close each card by the builder's one call (the guide's Derived/Test/ToyasCard.lean, 'card_holds'). Laid BY PROGRAM, IN A SANDBOX (cutbox-door.mjs). By AI agents, Wed Nov 11 2026. No macro, syntax, notation, axiom, sorry.
-/
import Derived.Test.YtjdceianlhenhaaDoorRows
import GoSem.ClaimSeven
namespace Go.Proofs.YtjdceianlhenhaaDoor
namespace Rows

/-- THE TIED CARD OF 'laws.FnExactDecimal'. -/
def fnExactDecimalCard : Claim7 := { stood := { row := fnExactDecimalRow, standIns := [], harness := (true, "45b40df4ecb17555dd5c1d94483eb756769c2546a25ba8838a2eaf573d21fcda"), looks := false }, kinds := [], alts := [], laidByText := true, laidKinds := [.data, .data, .data], laidTests := true, laidLooks := .later }
def FnExactDecimalCardSaid : Prop := Claim7.holds Tryd.pinned (.plain (OpenSpec.ofChange fnExactDecimalSpec)) fnExactDecimalCard

/-- THE TIED CARD OF 'laws.FnExactHourText'. -/
def fnExactHourTextCard : Claim7 := { stood := { row := fnExactHourTextRow, standIns := [], harness := (true, "45b40df4ecb17555dd5c1d94483eb756769c2546a25ba8838a2eaf573d21fcda"), looks := false }, kinds := [], alts := [], laidByText := true, laidKinds := [.data, .data, .data], laidTests := true, laidLooks := .later }
def FnExactHourTextCardSaid : Prop := Claim7.holds Tryd.pinned (.plain (OpenSpec.ofChange fnExactHourTextSpec)) fnExactHourTextCard

/-- THE TIED CARD OF 'laws.FnExactSpotText'. -/
def fnExactSpotTextCard : Claim7 := { stood := { row := fnExactSpotTextRow, standIns := [], harness := (true, "45b40df4ecb17555dd5c1d94483eb756769c2546a25ba8838a2eaf573d21fcda"), looks := false }, kinds := [], alts := [], laidByText := true, laidKinds := [.data, .data, .data], laidTests := true, laidLooks := .later }
def FnExactSpotTextCardSaid : Prop := Claim7.holds Tryd.pinned (.plain (OpenSpec.ofChange fnExactSpotTextSpec)) fnExactSpotTextCard

/-- THE TIED CARD OF 'laws.FnExactIsName'. -/
def fnExactIsNameCard : Claim7 := { stood := { row := fnExactIsNameRow, standIns := [], harness := (true, "45b40df4ecb17555dd5c1d94483eb756769c2546a25ba8838a2eaf573d21fcda"), looks := false }, kinds := [], alts := [], laidByText := true, laidKinds := [.data, .pinned], laidTests := true, laidLooks := .later }
def FnExactIsNameCardSaid : Prop := Claim7.holds Tryd.pinned (.plain (OpenSpec.ofChange fnExactIsNameSpec)) fnExactIsNameCard

/-- THE SECOND FORM's CARD OF 'laws.FnExactDecimal'. -/
def fnExactDecimalUptoCard : Claim7 := { stood := { row := fnExactDecimalUptoRow, standIns := [], harness := (true, "45b40df4ecb17555dd5c1d94483eb756769c2546a25ba8838a2eaf573d21fcda"), looks := false }, kinds := [], alts := [], laidByText := true, laidKinds := [.data, .data, .data], laidTests := true, laidLooks := .later }
def FnExactDecimalUptoCardSaid : Prop := Claim7.holds Tryd.pinned (.plain (OpenSpec.upto fnExactDecimalSpec)) fnExactDecimalUptoCard

/-- THE SECOND FORM's CARD OF 'laws.FnExactHourText'. -/
def fnExactHourTextUptoCard : Claim7 := { stood := { row := fnExactHourTextUptoRow, standIns := [], harness := (true, "45b40df4ecb17555dd5c1d94483eb756769c2546a25ba8838a2eaf573d21fcda"), looks := false }, kinds := [], alts := [], laidByText := true, laidKinds := [.data, .data, .data], laidTests := true, laidLooks := .later }
def FnExactHourTextUptoCardSaid : Prop := Claim7.holds Tryd.pinned (.plain (OpenSpec.upto fnExactHourTextSpec)) fnExactHourTextUptoCard

/-- THE SECOND FORM's CARD OF 'laws.FnExactSpotText'. -/
def fnExactSpotTextUptoCard : Claim7 := { stood := { row := fnExactSpotTextUptoRow, standIns := [], harness := (true, "45b40df4ecb17555dd5c1d94483eb756769c2546a25ba8838a2eaf573d21fcda"), looks := false }, kinds := [], alts := [], laidByText := true, laidKinds := [.data, .data, .data], laidTests := true, laidLooks := .later }
def FnExactSpotTextUptoCardSaid : Prop := Claim7.holds Tryd.pinned (.plain (OpenSpec.upto fnExactSpotTextSpec)) fnExactSpotTextUptoCard

/-- THE SECOND FORM's CARD OF 'laws.FnExactIsName'. -/
def fnExactIsNameUptoCard : Claim7 := { stood := { row := fnExactIsNameUptoRow, standIns := [], harness := (true, "45b40df4ecb17555dd5c1d94483eb756769c2546a25ba8838a2eaf573d21fcda"), looks := false }, kinds := [], alts := [], laidByText := true, laidKinds := [.data, .pinned], laidTests := true, laidLooks := .later }
def FnExactIsNameUptoCardSaid : Prop := Claim7.holds Tryd.pinned (.plain (OpenSpec.upto fnExactIsNameSpec)) fnExactIsNameUptoCard
end Rows
end Go.Proofs.YtjdceianlhenhaaDoor
