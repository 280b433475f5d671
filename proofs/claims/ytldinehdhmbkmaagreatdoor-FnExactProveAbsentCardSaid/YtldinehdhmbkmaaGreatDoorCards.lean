/-
  DERIVED. GIVEN WITH THE SEED: THE CARDS: each row of YtldinehdhmbkmaaGreatDoorRows.lean that lists a variable, with what it lists TIED to the program's text (the seventh form; the later family's looks); each row that meets fmt, with fmt's text TOLD by the authors' own Lean function (tested against real Go, not proved from fmt's source: count such statements apart). THE CARD IS WHAT COUNTS. Prove the row's statement (the work); the ties are given (YtldinehdhmbkmaaGreatDoorTie.lean); close each card by the builder's one call (the guide's Derived/Test/ToyasCard.lean, 'card_holds'). Laid BY PROGRAM, IN A SANDBOX (cutbox-door.mjs). By AI agents, Wed Nov 11 2026. No macro, syntax, notation, axiom, sorry.
-/
import Derived.Test.YtldinehdhmbkmaaGreatDoorRows
import GoSem.ClaimSeven
namespace Go.Proofs.YtldinehdhmbkmaaGreatDoor
namespace Rows

/-- THE TIED CARD OF 'laws.FnExactProveAbsent'. -/
def fnExactProveAbsentCard : Claim7 := { stood := { row := fnExactProveAbsentRow, standIns := [], harness := (true, "2a562bfc25e86c5d2419eeaa3614d5b3e2e7d9d1f344bfcfe4cf64836ba7e492"), looks := true }, kinds := [], alts := [], laidByText := true, laidKinds := [.data, .data, .data, .data, .sentinel, .sentinel, .pinned], laidTests := true, laidLooks := .later }
def FnExactProveAbsentCardSaid : Prop := Claim7.holds Tryz.pinned (.plain (OpenSpec.ofChange fnExactProveAbsentSpec)) fnExactProveAbsentCard

/-- THE SECOND FORM's CARD OF 'laws.FnExactProveAbsent'. -/
def fnExactProveAbsentUptoCard : Claim7 := { stood := { row := fnExactProveAbsentUptoRow, standIns := [], harness := (true, "2a562bfc25e86c5d2419eeaa3614d5b3e2e7d9d1f344bfcfe4cf64836ba7e492"), looks := true }, kinds := [], alts := [], laidByText := true, laidKinds := [.data, .data, .data, .data, .sentinel, .sentinel, .pinned], laidTests := true, laidLooks := .later }
def FnExactProveAbsentUptoCardSaid : Prop := Claim7.holds Tryz.pinned (.plain (OpenSpec.upto fnExactProveAbsentSpec)) fnExactProveAbsentUptoCard
end Rows
end Go.Proofs.YtldinehdhmbkmaaGreatDoor
