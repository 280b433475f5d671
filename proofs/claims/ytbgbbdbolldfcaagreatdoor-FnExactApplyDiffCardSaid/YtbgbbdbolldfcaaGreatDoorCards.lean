/-
  DERIVED. GIVEN WITH THE SEED: THE CARDS: each row of YtbgbbdbolldfcaaGreatDoorRows.lean that lists a variable, with what it lists TIED to the program's text (the seventh form; the later family's looks); each row that meets fmt, with fmt's text TOLD by the authors' own Lean function (tested against real Go, not proved from fmt's source: count such statements apart). THE CARD IS WHAT COUNTS. Prove the row's statement (the work); the ties are given (YtbgbbdbolldfcaaGreatDoorTie.lean); close each card by the builder's one call (the guide's Derived/Test/ToyasCard.lean, 'card_holds'). Laid BY PROGRAM, IN A SANDBOX (cutbox-door.mjs). By AI agents, Wed Nov 11 2026. No macro, syntax, notation, axiom, sorry.
-/
import Derived.Test.YtbgbbdbolldfcaaGreatDoorRows
import GoSem.ClaimSeven
namespace Go.Proofs.YtbgbbdbolldfcaaGreatDoor
namespace Rows

/-- THE TIED CARD OF 'laws.FnExactApplyDiff'. -/
def fnExactApplyDiffCard : Claim7 := { stood := { row := fnExactApplyDiffRow, standIns := [], harness := (true, "3508e34884bcfaf448b00e43ae05d0f589845c3f216913c5cb2ded9cac9857dc"), looks := true }, kinds := [], alts := [], laidByText := true, laidKinds := [.data, .data, .data, .data, .sentinel, .sentinel, .pinned], laidTests := true, laidLooks := .later }
def FnExactApplyDiffCardSaid : Prop := Claim7.holds Tryz.pinned (.plain (OpenSpec.ofChange fnExactApplyDiffSpec)) fnExactApplyDiffCard

/-- THE SECOND FORM's CARD OF 'laws.FnExactApplyDiff'. -/
def fnExactApplyDiffUptoCard : Claim7 := { stood := { row := fnExactApplyDiffUptoRow, standIns := [], harness := (true, "3508e34884bcfaf448b00e43ae05d0f589845c3f216913c5cb2ded9cac9857dc"), looks := true }, kinds := [], alts := [], laidByText := true, laidKinds := [.data, .data, .data, .data, .sentinel, .sentinel, .pinned], laidTests := true, laidLooks := .later }
def FnExactApplyDiffUptoCardSaid : Prop := Claim7.holds Tryz.pinned (.plain (OpenSpec.upto fnExactApplyDiffSpec)) fnExactApplyDiffUptoCard
end Rows
end Go.Proofs.YtbgbbdbolldfcaaGreatDoor
