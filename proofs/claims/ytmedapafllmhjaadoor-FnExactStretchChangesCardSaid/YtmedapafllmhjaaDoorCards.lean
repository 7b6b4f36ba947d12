/-
  DERIVED. GIVEN WITH THE SEED: THE CARDS: each row of YtmedapafllmhjaaDoorRows.lean that lists a variable, with what it lists TIED to the program's text (the seventh form; the later family's looks); each row that meets fmt, with fmt's text TOLD by the authors' own Lean function (tested against real Go, not proved from fmt's source: count such statements apart). THE CARD IS WHAT COUNTS. Prove the row's statement (the work); the ties are given (YtmedapafllmhjaaDoorTie.lean); close each card by the builder's one call (the guide's Derived/Test/ToyasCard.lean, 'card_holds'). Laid BY PROGRAM, IN A SANDBOX (cutbox-door.mjs). By AI agents, Wed Nov 11 2026. No macro, syntax, notation, axiom, sorry.
-/
import Derived.Test.YtmedapafllmhjaaDoorRows
import GoSem.ClaimSeven
namespace Go.Proofs.YtmedapafllmhjaaDoor
namespace Rows

/-- THE TIED CARD OF 'laws.FnExactIsTraffic'. -/
def fnExactIsTrafficCard : Claim7 := { stood := { row := fnExactIsTrafficRow, standIns := [], harness := (true, "0dad97862b67c569b4c75bd4f79079d12785cd4bcd55af3e3e8a7c4f1efbd7ea"), looks := false }, kinds := [], alts := [], laidByText := true, laidKinds := [.data, .pinned], laidTests := true, laidLooks := .later }
def FnExactIsTrafficCardSaid : Prop := Claim7.holds Tryd.pinned (.plain (OpenSpec.ofChange fnExactIsTrafficSpec)) fnExactIsTrafficCard

/-- THE TIED CARD OF 'laws.FnExactWaterUsed'. -/
def fnExactWaterUsedCard : Claim7 := { stood := { row := fnExactWaterUsedRow, standIns := [], harness := (true, "0dad97862b67c569b4c75bd4f79079d12785cd4bcd55af3e3e8a7c4f1efbd7ea"), looks := false }, kinds := [], alts := [], laidByText := true, laidKinds := [.data, .pinned], laidTests := true, laidLooks := .later }
def FnExactWaterUsedCardSaid : Prop := Claim7.holds Tryd.pinned (.plain (OpenSpec.ofChange fnExactWaterUsedSpec)) fnExactWaterUsedCard

/-- THE TIED CARD OF 'laws.FnExactFillingsOf'. -/
def fnExactFillingsOfCard : Claim7 := { stood := { row := fnExactFillingsOfRow, standIns := [], harness := (true, "0dad97862b67c569b4c75bd4f79079d12785cd4bcd55af3e3e8a7c4f1efbd7ea"), looks := false }, kinds := [], alts := [], laidByText := true, laidKinds := [.data, .pinned], laidTests := true, laidLooks := .later }
def FnExactFillingsOfCardSaid : Prop := Claim7.holds Tryd.pinned (.plain (OpenSpec.ofChange fnExactFillingsOfSpec)) fnExactFillingsOfCard

/-- THE TIED CARD OF 'laws.FnExactStretchChanges'. -/
def fnExactStretchChangesCard : Claim7 := { stood := { row := fnExactStretchChangesRow, standIns := [], harness := (true, "0dad97862b67c569b4c75bd4f79079d12785cd4bcd55af3e3e8a7c4f1efbd7ea"), looks := false }, kinds := [], alts := [], laidByText := true, laidKinds := [.data, .pinned], laidTests := true, laidLooks := .later }
def FnExactStretchChangesCardSaid : Prop := Claim7.holds Tryd.pinned (.plain (OpenSpec.ofChange fnExactStretchChangesSpec)) fnExactStretchChangesCard

/-- THE TIED CARD OF 'laws.FnExactRunShips'. -/
def fnExactRunShipsCard : Claim7 := { stood := { row := fnExactRunShipsRow, standIns := [], harness := (true, "0dad97862b67c569b4c75bd4f79079d12785cd4bcd55af3e3e8a7c4f1efbd7ea"), looks := false }, kinds := [], alts := [], laidByText := true, laidKinds := [.data, .pinned], laidTests := true, laidLooks := .later }
def FnExactRunShipsCardSaid : Prop := Claim7.holds Tryd.pinned (.plain (OpenSpec.ofChange fnExactRunShipsSpec)) fnExactRunShipsCard

/-- THE SECOND FORM's CARD OF 'laws.FnExactIsTraffic'. -/
def fnExactIsTrafficUptoCard : Claim7 := { stood := { row := fnExactIsTrafficUptoRow, standIns := [], harness := (true, "0dad97862b67c569b4c75bd4f79079d12785cd4bcd55af3e3e8a7c4f1efbd7ea"), looks := false }, kinds := [], alts := [], laidByText := true, laidKinds := [.data, .pinned], laidTests := true, laidLooks := .later }
def FnExactIsTrafficUptoCardSaid : Prop := Claim7.holds Tryd.pinned (.plain (OpenSpec.upto fnExactIsTrafficSpec)) fnExactIsTrafficUptoCard

/-- THE SECOND FORM's CARD OF 'laws.FnExactWaterUsed'. -/
def fnExactWaterUsedUptoCard : Claim7 := { stood := { row := fnExactWaterUsedUptoRow, standIns := [], harness := (true, "0dad97862b67c569b4c75bd4f79079d12785cd4bcd55af3e3e8a7c4f1efbd7ea"), looks := false }, kinds := [], alts := [], laidByText := true, laidKinds := [.data, .pinned], laidTests := true, laidLooks := .later }
def FnExactWaterUsedUptoCardSaid : Prop := Claim7.holds Tryd.pinned (.plain (OpenSpec.upto fnExactWaterUsedSpec)) fnExactWaterUsedUptoCard

/-- THE SECOND FORM's CARD OF 'laws.FnExactFillingsOf'. -/
def fnExactFillingsOfUptoCard : Claim7 := { stood := { row := fnExactFillingsOfUptoRow, standIns := [], harness := (true, "0dad97862b67c569b4c75bd4f79079d12785cd4bcd55af3e3e8a7c4f1efbd7ea"), looks := false }, kinds := [], alts := [], laidByText := true, laidKinds := [.data, .pinned], laidTests := true, laidLooks := .later }
def FnExactFillingsOfUptoCardSaid : Prop := Claim7.holds Tryd.pinned (.plain (OpenSpec.upto fnExactFillingsOfSpec)) fnExactFillingsOfUptoCard

/-- THE SECOND FORM's CARD OF 'laws.FnExactStretchChanges'. -/
def fnExactStretchChangesUptoCard : Claim7 := { stood := { row := fnExactStretchChangesUptoRow, standIns := [], harness := (true, "0dad97862b67c569b4c75bd4f79079d12785cd4bcd55af3e3e8a7c4f1efbd7ea"), looks := false }, kinds := [], alts := [], laidByText := true, laidKinds := [.data, .pinned], laidTests := true, laidLooks := .later }
def FnExactStretchChangesUptoCardSaid : Prop := Claim7.holds Tryd.pinned (.plain (OpenSpec.upto fnExactStretchChangesSpec)) fnExactStretchChangesUptoCard

/-- THE SECOND FORM's CARD OF 'laws.FnExactRunShips'. -/
def fnExactRunShipsUptoCard : Claim7 := { stood := { row := fnExactRunShipsUptoRow, standIns := [], harness := (true, "0dad97862b67c569b4c75bd4f79079d12785cd4bcd55af3e3e8a7c4f1efbd7ea"), looks := false }, kinds := [], alts := [], laidByText := true, laidKinds := [.data, .pinned], laidTests := true, laidLooks := .later }
def FnExactRunShipsUptoCardSaid : Prop := Claim7.holds Tryd.pinned (.plain (OpenSpec.upto fnExactRunShipsSpec)) fnExactRunShipsUptoCard
end Rows
end Go.Proofs.YtmedapafllmhjaaDoor
