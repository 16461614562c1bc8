/-
  DERIVED. GIVEN WITH THE SEED: THE CARDS: each row of YteoehlcjllbhfaaDoorRows.lean that lists a variable, with what it lists TIED to the program's text (the seventh form; the later family's looks); each row that meets fmt, with fmt's text TOLD by the authors' own Lean function (tested against real Go, not proved from fmt's source: count such statements apart). THE CARD IS WHAT COUNTS. Prove the row's statement (the work); the ties are given (YteoehlcjllbhfaaDoorTie.lean); close each card by the builder's one call (the guide's Derived/Test/ToyasCard.lean, 'card_holds'). Laid BY PROGRAM, IN A SANDBOX (cutbox-door.mjs). By AI agents, Wed Nov 11 2026. No macro, syntax, notation, axiom, sorry.
-/
import Derived.Test.YteoehlcjllbhfaaDoorRows
import GoSem.ClaimSeven
namespace Go.Proofs.YteoehlcjllbhfaaDoor
namespace Rows

/-- THE TIED CARD OF 'relaylaw02.TimesPrints'. -/
def timesPrintsCard : Claim7 := { stood := { row := timesPrintsRow, standIns := [], harness := (true, "320dcb871d2346c0f425c2675726237ed4d209a14202ef47ad8b398d7fe0df67"), looks := false }, kinds := [], alts := [], laidByText := true, laidKinds := [.data, .data, .data, .data, .pinned], laidTests := true, laidLooks := .later }
def TimesPrintsCardSaid : Prop := Claim7.holds Tryd.pinned (.plain (OpenSpec.ofChange timesPrintsSpec)) timesPrintsCard

/-- THE SECOND FORM's CARD OF 'relaylaw02.TimesPrints'. -/
def timesPrintsUptoCard : Claim7 := { stood := { row := timesPrintsUptoRow, standIns := [], harness := (true, "320dcb871d2346c0f425c2675726237ed4d209a14202ef47ad8b398d7fe0df67"), looks := false }, kinds := [], alts := [], laidByText := true, laidKinds := [.data, .data, .data, .data, .pinned], laidTests := true, laidLooks := .later }
def TimesPrintsUptoCardSaid : Prop := Claim7.holds Tryd.pinned (.plain (OpenSpec.upto timesPrintsSpec)) timesPrintsUptoCard
end Rows
end Go.Proofs.YteoehlcjllbhfaaDoor
