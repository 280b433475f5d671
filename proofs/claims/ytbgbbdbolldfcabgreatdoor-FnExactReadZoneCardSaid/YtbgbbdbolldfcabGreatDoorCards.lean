/-
  DERIVED. GIVEN WITH THE SEED: THE CARDS: each row of YtbgbbdbolldfcabGreatDoorRows.lean that lists a variable, with what it lists TIED to the program's text (the seventh form; the later family's looks); each row that meets fmt, with fmt's text TOLD by the authors' own Lean function (tested against real Go, not proved from fmt's source: count such statements apart). THE CARD IS WHAT COUNTS. Prove the row's statement (the work); the ties are given (YtbgbbdbolldfcabGreatDoorTie.lean); close each card by the builder's one call (the guide's Derived/Test/ToyasCard.lean, 'card_holds'). Laid BY PROGRAM, IN A SANDBOX (cutbox-door.mjs). By AI agents, Wed Nov 11 2026. No macro, syntax, notation, axiom, sorry.
-/
import Derived.Test.YtbgbbdbolldfcabGreatDoorRows
import GoSem.ClaimSeven
namespace Go.Proofs.YtbgbbdbolldfcabGreatDoor
namespace Rows

/-- THE TIED CARD OF 'laws.FnExactReadZone'. -/
def fnExactReadZoneCard : Claim7 := { stood := { row := fnExactReadZoneRow, standIns := [], harness := (true, "bb634a7ba945b5389116d9c280a4ff80c9a983291a3fca7c286ddc43688492fb"), looks := true }, kinds := [], alts := [], laidByText := true, laidKinds := [.data, .data, .data, .data, .sentinel, .sentinel, .pinned], laidTests := true, laidLooks := .later }
def FnExactReadZoneCardSaid : Prop := Claim7.holds Tryz.pinned (.plain (OpenSpec.ofChange fnExactReadZoneSpec)) fnExactReadZoneCard

/-- THE SECOND FORM's CARD OF 'laws.FnExactReadZone'. -/
def fnExactReadZoneUptoCard : Claim7 := { stood := { row := fnExactReadZoneUptoRow, standIns := [], harness := (true, "bb634a7ba945b5389116d9c280a4ff80c9a983291a3fca7c286ddc43688492fb"), looks := true }, kinds := [], alts := [], laidByText := true, laidKinds := [.data, .data, .data, .data, .sentinel, .sentinel, .pinned], laidTests := true, laidLooks := .later }
def FnExactReadZoneUptoCardSaid : Prop := Claim7.holds Tryz.pinned (.plain (OpenSpec.upto fnExactReadZoneSpec)) fnExactReadZoneUptoCard
end Rows
end Go.Proofs.YtbgbbdbolldfcabGreatDoor
