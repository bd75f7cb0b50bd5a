/-
  DERIVED. GIVEN WITH THE SEED: THE CARDS: each row of YtnppmeeibbefbaaGreatDoorRows.lean that lists a variable, with what it lists TIED to the program's text (the seventh form; the later family's looks); each row that meets fmt, with fmt's text TOLD by the authors' own Lean function (tested against real Go, not proved from fmt's source: count such statements apart). THE CARD IS WHAT COUNTS. Prove the row's statement (the work); the ties are given (YtnppmeeibbefbaaGreatDoorTie.lean); close each card by the builder's one call (the guide's Derived/Test/ToyasCard.lean, 'card_holds'). Laid BY PROGRAM, IN A SANDBOX (cutbox-door.mjs). By AI agents, Wed Nov 11 2026. No macro, syntax, notation, axiom, sorry.
-/
import Derived.Test.YtnppmeeibbefbaaGreatDoorRows
import GoSem.ClaimSeven
namespace Go.Proofs.YtnppmeeibbefbaaGreatDoor
namespace Rows

/-- THE TIED CARD OF 'hearsaylaw17.UpkeepMany'. -/
def upkeepManyCard : Claim7 := { stood := { row := upkeepManyRow, standIns := [], harness := (true, "514240e328352054d835b3d3e835ee805f547f8b6eba72c26eeb3c03ed0f3335"), looks := false }, kinds := [], alts := [], laidByText := true, laidKinds := [.data, .data, .data, .data, .funcs], laidTests := true, laidLooks := .later }
def UpkeepManyCardSaid : Prop := Claim7.holds Tryz.pinned (.plain (OpenSpec.ofChange upkeepManySpec)) upkeepManyCard

/-- THE TIED CARD OF 'hearsaylaw17.UpkeepFull'. -/
def upkeepFullCard : Claim7 := { stood := { row := upkeepFullRow, standIns := [], harness := (true, "514240e328352054d835b3d3e835ee805f547f8b6eba72c26eeb3c03ed0f3335"), looks := false }, kinds := [], alts := [], laidByText := true, laidKinds := [.data, .data, .data, .data, .funcs], laidTests := true, laidLooks := .later }
def UpkeepFullCardSaid : Prop := Claim7.holds Tryz.pinned (.plain (OpenSpec.ofChange upkeepFullSpec)) upkeepFullCard

/-- THE SECOND FORM's CARD OF 'hearsaylaw17.UpkeepMany'. -/
def upkeepManyUptoCard : Claim7 := { stood := { row := upkeepManyUptoRow, standIns := [], harness := (true, "514240e328352054d835b3d3e835ee805f547f8b6eba72c26eeb3c03ed0f3335"), looks := false }, kinds := [], alts := [], laidByText := true, laidKinds := [.data, .data, .data, .data, .funcs], laidTests := true, laidLooks := .later }
def UpkeepManyUptoCardSaid : Prop := Claim7.holds Tryz.pinned (.plain (OpenSpec.upto upkeepManySpec)) upkeepManyUptoCard

/-- THE SECOND FORM's CARD OF 'hearsaylaw17.UpkeepFull'. -/
def upkeepFullUptoCard : Claim7 := { stood := { row := upkeepFullUptoRow, standIns := [], harness := (true, "514240e328352054d835b3d3e835ee805f547f8b6eba72c26eeb3c03ed0f3335"), looks := false }, kinds := [], alts := [], laidByText := true, laidKinds := [.data, .data, .data, .data, .funcs], laidTests := true, laidLooks := .later }
def UpkeepFullUptoCardSaid : Prop := Claim7.holds Tryz.pinned (.plain (OpenSpec.upto upkeepFullSpec)) upkeepFullUptoCard
end Rows
end Go.Proofs.YtnppmeeibbefbaaGreatDoor
