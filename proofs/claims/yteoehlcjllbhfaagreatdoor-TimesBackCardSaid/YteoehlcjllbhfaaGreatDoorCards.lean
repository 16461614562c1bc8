/-
  DERIVED. GIVEN WITH THE SEED: THE CARDS: each row of YteoehlcjllbhfaaGreatDoorRows.lean that lists a variable, with what it lists TIED to the program's text (the seventh form; the later family's looks); each row that meets fmt, with fmt's text TOLD by the authors' own Lean function (tested against real Go, not proved from fmt's source: count such statements apart). THE CARD IS WHAT COUNTS. Prove the row's statement (the work); the ties are given (YteoehlcjllbhfaaGreatDoorTie.lean); close each card by the builder's one call (the guide's Derived/Test/ToyasCard.lean, 'card_holds'). Laid BY PROGRAM, IN A SANDBOX (cutbox-door.mjs). By AI agents, Wed Nov 11 2026. No macro, syntax, notation, axiom, sorry.
-/
import Derived.Test.YteoehlcjllbhfaaGreatDoorRows
import GoSem.ClaimSeven
namespace Go.Proofs.YteoehlcjllbhfaaGreatDoor
namespace Rows

/-- THE TIED CARD OF 'relaylaw02.TimesMay'. -/
def timesMayCard : Claim7 := { stood := { row := timesMayRow, standIns := [], harness := (true, "529a22b544b6272e2611d3286b733d8b9d95375cb0c618f73cbd148434eee37c"), looks := true }, kinds := [], alts := [], laidByText := true, laidKinds := [.data, .data, .data, .data, .sentinel, .sentinel, .pinned, .pinned], laidTests := true, laidLooks := .later }
def TimesMayCardSaid : Prop := Claim7.holds Tryz.pinned (.plain (OpenSpec.ofChange timesMaySpec)) timesMayCard

/-- THE TIED CARD OF 'relaylaw02.TimesOrdered'. -/
def timesOrderedCard : Claim7 := { stood := { row := timesOrderedRow, standIns := [], harness := (true, "529a22b544b6272e2611d3286b733d8b9d95375cb0c618f73cbd148434eee37c"), looks := true }, kinds := [], alts := [], laidByText := true, laidKinds := [.data, .data, .data, .data, .sentinel, .sentinel, .pinned, .pinned], laidTests := true, laidLooks := .later }
def TimesOrderedCardSaid : Prop := Claim7.holds Tryz.pinned (.plain (OpenSpec.ofChange timesOrderedSpec)) timesOrderedCard

/-- THE TIED CARD OF 'relaylaw02.TimesDaily'. -/
def timesDailyCard : Claim7 := { stood := { row := timesDailyRow, standIns := [], harness := (true, "529a22b544b6272e2611d3286b733d8b9d95375cb0c618f73cbd148434eee37c"), looks := true }, kinds := [], alts := [], laidByText := true, laidKinds := [.data, .data, .data, .data, .sentinel, .sentinel, .pinned, .pinned], laidTests := true, laidLooks := .later }
def TimesDailyCardSaid : Prop := Claim7.holds Tryz.pinned (.plain (OpenSpec.ofChange timesDailySpec)) timesDailyCard

/-- THE TIED CARD OF 'relaylaw02.TimesApart'. -/
def timesApartCard : Claim7 := { stood := { row := timesApartRow, standIns := [], harness := (true, "529a22b544b6272e2611d3286b733d8b9d95375cb0c618f73cbd148434eee37c"), looks := true }, kinds := [], alts := [], laidByText := true, laidKinds := [.data, .data, .data, .data, .sentinel, .sentinel, .pinned, .pinned], laidTests := true, laidLooks := .later }
def TimesApartCardSaid : Prop := Claim7.holds Tryz.pinned (.plain (OpenSpec.ofChange timesApartSpec)) timesApartCard

/-- THE TIED CARD OF 'relaylaw02.TimesBack'. -/
def timesBackCard : Claim7 := { stood := { row := timesBackRow, standIns := [], harness := (true, "529a22b544b6272e2611d3286b733d8b9d95375cb0c618f73cbd148434eee37c"), looks := true }, kinds := [], alts := [], laidByText := true, laidKinds := [.data, .data, .data, .data, .sentinel, .sentinel, .pinned, .pinned], laidTests := true, laidLooks := .later }
def TimesBackCardSaid : Prop := Claim7.holds Tryz.pinned (.plain (OpenSpec.ofChange timesBackSpec)) timesBackCard

/-- THE SECOND FORM's CARD OF 'relaylaw02.TimesMay'. -/
def timesMayUptoCard : Claim7 := { stood := { row := timesMayUptoRow, standIns := [], harness := (true, "529a22b544b6272e2611d3286b733d8b9d95375cb0c618f73cbd148434eee37c"), looks := true }, kinds := [], alts := [], laidByText := true, laidKinds := [.data, .data, .data, .data, .sentinel, .sentinel, .pinned, .pinned], laidTests := true, laidLooks := .later }
def TimesMayUptoCardSaid : Prop := Claim7.holds Tryz.pinned (.plain (OpenSpec.upto timesMaySpec)) timesMayUptoCard

/-- THE SECOND FORM's CARD OF 'relaylaw02.TimesOrdered'. -/
def timesOrderedUptoCard : Claim7 := { stood := { row := timesOrderedUptoRow, standIns := [], harness := (true, "529a22b544b6272e2611d3286b733d8b9d95375cb0c618f73cbd148434eee37c"), looks := true }, kinds := [], alts := [], laidByText := true, laidKinds := [.data, .data, .data, .data, .sentinel, .sentinel, .pinned, .pinned], laidTests := true, laidLooks := .later }
def TimesOrderedUptoCardSaid : Prop := Claim7.holds Tryz.pinned (.plain (OpenSpec.upto timesOrderedSpec)) timesOrderedUptoCard

/-- THE SECOND FORM's CARD OF 'relaylaw02.TimesDaily'. -/
def timesDailyUptoCard : Claim7 := { stood := { row := timesDailyUptoRow, standIns := [], harness := (true, "529a22b544b6272e2611d3286b733d8b9d95375cb0c618f73cbd148434eee37c"), looks := true }, kinds := [], alts := [], laidByText := true, laidKinds := [.data, .data, .data, .data, .sentinel, .sentinel, .pinned, .pinned], laidTests := true, laidLooks := .later }
def TimesDailyUptoCardSaid : Prop := Claim7.holds Tryz.pinned (.plain (OpenSpec.upto timesDailySpec)) timesDailyUptoCard

/-- THE SECOND FORM's CARD OF 'relaylaw02.TimesApart'. -/
def timesApartUptoCard : Claim7 := { stood := { row := timesApartUptoRow, standIns := [], harness := (true, "529a22b544b6272e2611d3286b733d8b9d95375cb0c618f73cbd148434eee37c"), looks := true }, kinds := [], alts := [], laidByText := true, laidKinds := [.data, .data, .data, .data, .sentinel, .sentinel, .pinned, .pinned], laidTests := true, laidLooks := .later }
def TimesApartUptoCardSaid : Prop := Claim7.holds Tryz.pinned (.plain (OpenSpec.upto timesApartSpec)) timesApartUptoCard

/-- THE SECOND FORM's CARD OF 'relaylaw02.TimesBack'. -/
def timesBackUptoCard : Claim7 := { stood := { row := timesBackUptoRow, standIns := [], harness := (true, "529a22b544b6272e2611d3286b733d8b9d95375cb0c618f73cbd148434eee37c"), looks := true }, kinds := [], alts := [], laidByText := true, laidKinds := [.data, .data, .data, .data, .sentinel, .sentinel, .pinned, .pinned], laidTests := true, laidLooks := .later }
def TimesBackUptoCardSaid : Prop := Claim7.holds Tryz.pinned (.plain (OpenSpec.upto timesBackSpec)) timesBackUptoCard
end Rows
end Go.Proofs.YteoehlcjllbhfaaGreatDoor
