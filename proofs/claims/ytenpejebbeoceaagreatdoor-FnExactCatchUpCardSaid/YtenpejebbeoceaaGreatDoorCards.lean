/-
  DERIVED. GIVEN WITH THE SEED: THE CARDS: each row of YtenpejebbeoceaaGreatDoorRows.lean that lists a variable, with what it lists TIED to the program's text (the seventh form; the later family's looks); each row that meets fmt, with fmt's text TOLD by the authors' own Lean function (tested against real Go, not proved from fmt's source: count such statements apart). THE CARD IS WHAT COUNTS. Prove the row's statement (the work); the ties are given (YtenpejebbeoceaaGreatDoorTie.lean); close each card by the builder's one call (the guide's Derived/Test/ToyasCard.lean, 'card_holds'). Laid BY PROGRAM, IN A SANDBOX (cutbox-door.mjs). By AI agents, Wed Nov 11 2026. No macro, syntax, notation, axiom, sorry.
-/
import Derived.Test.YtenpejebbeoceaaGreatDoorRows
import GoSem.ClaimSeven
namespace Go.Proofs.YtenpejebbeoceaaGreatDoor
namespace Rows

/-- THE TIED CARD OF 'laws.FnExactCatchUp'. -/
def fnExactCatchUpCard : Claim7 := { stood := { row := fnExactCatchUpRow, standIns := [], harness := (true, "b5520854fad25970d97b257217888f9d81fcaa2b0b88d2a7ec8c1641cec9599c"), looks := true }, kinds := [], alts := [], laidByText := true, laidKinds := [.data, .data, .data, .data, .sentinel, .sentinel, .pinned], laidTests := true, laidLooks := .later }
def FnExactCatchUpCardSaid : Prop := Claim7.holds Tryz.pinned (.plain (OpenSpec.ofChange fnExactCatchUpSpec)) fnExactCatchUpCard

/-- THE SECOND FORM's CARD OF 'laws.FnExactCatchUp'. -/
def fnExactCatchUpUptoCard : Claim7 := { stood := { row := fnExactCatchUpUptoRow, standIns := [], harness := (true, "b5520854fad25970d97b257217888f9d81fcaa2b0b88d2a7ec8c1641cec9599c"), looks := true }, kinds := [], alts := [], laidByText := true, laidKinds := [.data, .data, .data, .data, .sentinel, .sentinel, .pinned], laidTests := true, laidLooks := .later }
def FnExactCatchUpUptoCardSaid : Prop := Claim7.holds Tryz.pinned (.plain (OpenSpec.upto fnExactCatchUpSpec)) fnExactCatchUpUptoCard
end Rows
end Go.Proofs.YtenpejebbeoceaaGreatDoor
