/-
  DERIVED. GIVEN WITH THE SEED: THE CARDS: each row of YtbgajeomljkdjaaGreatDoorRows.lean that lists a variable, with what it lists TIED to the program's text (the seventh form; the later family's looks); each row that meets fmt, with fmt's text TOLD by the authors' own Lean function (tested against real Go, not proved from fmt's source: count such statements apart). THE CARD IS WHAT COUNTS. Prove the row's statement (the work); the ties are given (YtbgajeomljkdjaaGreatDoorTie.lean); close each card by the builder's one call (the guide's Derived/Test/ToyasCard.lean, 'card_holds'). Laid BY PROGRAM, IN A SANDBOX (cutbox-door.mjs). By AI agents, Wed Nov 11 2026. No macro, syntax, notation, axiom, sorry.
-/
import Derived.Test.YtbgajeomljkdjaaGreatDoorRows
import GoSem.ClaimSeven
namespace Go.Proofs.YtbgajeomljkdjaaGreatDoor
namespace Rows

/-- THE TIED CARD OF 'laws.FnExactApplyDiff'. -/
def fnExactApplyDiffCard : Claim7 := { stood := { row := fnExactApplyDiffRow, standIns := [], harness := (true, "044a110110aa67535488eace3515e64b20da4ce999aad1162c0ea40ad9bcd067"), looks := true }, kinds := [], alts := [], laidByText := true, laidKinds := [.data, .data, .data, .data, .sentinel, .sentinel, .pinned], laidTests := true, laidLooks := .later }
def FnExactApplyDiffCardSaid : Prop := Claim7.holds Tryz.pinned (.plain (OpenSpec.ofChange fnExactApplyDiffSpec)) fnExactApplyDiffCard

/-- THE TIED CARD OF 'laws.FnExactApplyBatch'. -/
def fnExactApplyBatchCard : Claim7 := { stood := { row := fnExactApplyBatchRow, standIns := [], harness := (true, "044a110110aa67535488eace3515e64b20da4ce999aad1162c0ea40ad9bcd067"), looks := true }, kinds := [], alts := [], laidByText := true, laidKinds := [.data, .data, .data, .data, .sentinel, .sentinel, .pinned], laidTests := true, laidLooks := .later }
def FnExactApplyBatchCardSaid : Prop := Claim7.holds Tryz.pinned (.plain (OpenSpec.ofChange fnExactApplyBatchSpec)) fnExactApplyBatchCard

/-- THE TIED CARD OF 'laws.FnExactCatchUp'. -/
def fnExactCatchUpCard : Claim7 := { stood := { row := fnExactCatchUpRow, standIns := [], harness := (true, "044a110110aa67535488eace3515e64b20da4ce999aad1162c0ea40ad9bcd067"), looks := true }, kinds := [], alts := [], laidByText := true, laidKinds := [.data, .data, .data, .data, .sentinel, .sentinel, .pinned], laidTests := true, laidLooks := .later }
def FnExactCatchUpCardSaid : Prop := Claim7.holds Tryz.pinned (.plain (OpenSpec.ofChange fnExactCatchUpSpec)) fnExactCatchUpCard

/-- THE SECOND FORM's CARD OF 'laws.FnExactApplyDiff'. -/
def fnExactApplyDiffUptoCard : Claim7 := { stood := { row := fnExactApplyDiffUptoRow, standIns := [], harness := (true, "044a110110aa67535488eace3515e64b20da4ce999aad1162c0ea40ad9bcd067"), looks := true }, kinds := [], alts := [], laidByText := true, laidKinds := [.data, .data, .data, .data, .sentinel, .sentinel, .pinned], laidTests := true, laidLooks := .later }
def FnExactApplyDiffUptoCardSaid : Prop := Claim7.holds Tryz.pinned (.plain (OpenSpec.upto fnExactApplyDiffSpec)) fnExactApplyDiffUptoCard

/-- THE SECOND FORM's CARD OF 'laws.FnExactApplyBatch'. -/
def fnExactApplyBatchUptoCard : Claim7 := { stood := { row := fnExactApplyBatchUptoRow, standIns := [], harness := (true, "044a110110aa67535488eace3515e64b20da4ce999aad1162c0ea40ad9bcd067"), looks := true }, kinds := [], alts := [], laidByText := true, laidKinds := [.data, .data, .data, .data, .sentinel, .sentinel, .pinned], laidTests := true, laidLooks := .later }
def FnExactApplyBatchUptoCardSaid : Prop := Claim7.holds Tryz.pinned (.plain (OpenSpec.upto fnExactApplyBatchSpec)) fnExactApplyBatchUptoCard

/-- THE SECOND FORM's CARD OF 'laws.FnExactCatchUp'. -/
def fnExactCatchUpUptoCard : Claim7 := { stood := { row := fnExactCatchUpUptoRow, standIns := [], harness := (true, "044a110110aa67535488eace3515e64b20da4ce999aad1162c0ea40ad9bcd067"), looks := true }, kinds := [], alts := [], laidByText := true, laidKinds := [.data, .data, .data, .data, .sentinel, .sentinel, .pinned], laidTests := true, laidLooks := .later }
def FnExactCatchUpUptoCardSaid : Prop := Claim7.holds Tryz.pinned (.plain (OpenSpec.upto fnExactCatchUpSpec)) fnExactCatchUpUptoCard
end Rows
end Go.Proofs.YtbgajeomljkdjaaGreatDoor
