/-
  DERIVED. GIVEN WITH THE SEED: THE CARDS: each row of YthohohfmdieohaaGreatDoorRows.lean that lists a variable, with what it lists TIED to the program's text (the seventh form; the later family's looks); each row that meets fmt, with fmt's text TOLD by the authors' own Lean function (tested against real Go, not proved from fmt's source: count such statements apart). THE CARD IS WHAT COUNTS. Prove the row's statement (the work); the ties are given (YthohohfmdieohaaGreatDoorTie.lean); close each card by the builder's one call (the guide's Derived/Test/ToyasCard.lean, 'card_holds'). Laid BY PROGRAM, IN A SANDBOX (cutbox-door.mjs). By AI agents, Wed Nov 11 2026. No macro, syntax, notation, axiom, sorry.
-/
import Derived.Test.YthohohfmdieohaaGreatDoorRows
import GoSem.ClaimSeven
namespace Go.Proofs.YthohohfmdieohaaGreatDoor
namespace Rows

/-- THE TIED CARD OF 'laws.FnExactGoodDiff'. -/
def fnExactGoodDiffCard : Claim7 := { stood := { row := fnExactGoodDiffRow, standIns := [], harness := (true, "beb463bcedd4628fe05652827a51c94b0278649e5918e2ff09b3d9e8bfd38f11"), looks := true }, kinds := [], alts := [], laidByText := true, laidKinds := [.data, .data, .data, .data, .sentinel, .sentinel, .pinned], laidTests := true, laidLooks := .later }
def FnExactGoodDiffCardSaid : Prop := Claim7.holds Tryz.pinned (.plain (OpenSpec.ofChange fnExactGoodDiffSpec)) fnExactGoodDiffCard

/-- THE TIED CARD OF 'laws.FnExactBackDiff'. -/
def fnExactBackDiffCard : Claim7 := { stood := { row := fnExactBackDiffRow, standIns := [], harness := (true, "beb463bcedd4628fe05652827a51c94b0278649e5918e2ff09b3d9e8bfd38f11"), looks := true }, kinds := [], alts := [], laidByText := true, laidKinds := [.data, .data, .data, .data, .sentinel, .sentinel, .pinned], laidTests := true, laidLooks := .later }
def FnExactBackDiffCardSaid : Prop := Claim7.holds Tryz.pinned (.plain (OpenSpec.ofChange fnExactBackDiffSpec)) fnExactBackDiffCard

/-- THE TIED CARD OF 'laws.FnExactGoodJournal'. -/
def fnExactGoodJournalCard : Claim7 := { stood := { row := fnExactGoodJournalRow, standIns := [], harness := (true, "beb463bcedd4628fe05652827a51c94b0278649e5918e2ff09b3d9e8bfd38f11"), looks := true }, kinds := [], alts := [], laidByText := true, laidKinds := [.data, .data, .data, .data, .sentinel, .sentinel, .pinned], laidTests := true, laidLooks := .later }
def FnExactGoodJournalCardSaid : Prop := Claim7.holds Tryz.pinned (.plain (OpenSpec.ofChange fnExactGoodJournalSpec)) fnExactGoodJournalCard

/-- THE TIED CARD OF 'laws.FnExactGoodCache'. -/
def fnExactGoodCacheCard : Claim7 := { stood := { row := fnExactGoodCacheRow, standIns := [], harness := (true, "beb463bcedd4628fe05652827a51c94b0278649e5918e2ff09b3d9e8bfd38f11"), looks := true }, kinds := [], alts := [], laidByText := true, laidKinds := [.data, .data, .data, .data, .sentinel, .sentinel, .pinned], laidTests := true, laidLooks := .later }
def FnExactGoodCacheCardSaid : Prop := Claim7.holds Tryz.pinned (.plain (OpenSpec.ofChange fnExactGoodCacheSpec)) fnExactGoodCacheCard

/-- THE TIED CARD OF 'laws.FnExactOldestIn'. -/
def fnExactOldestInCard : Claim7 := { stood := { row := fnExactOldestInRow, standIns := [], harness := (true, "beb463bcedd4628fe05652827a51c94b0278649e5918e2ff09b3d9e8bfd38f11"), looks := true }, kinds := [], alts := [], laidByText := true, laidKinds := [.data, .data, .data, .data, .sentinel, .sentinel, .pinned], laidTests := true, laidLooks := .later }
def FnExactOldestInCardSaid : Prop := Claim7.holds Tryz.pinned (.plain (OpenSpec.ofChange fnExactOldestInSpec)) fnExactOldestInCard

/-- THE TIED CARD OF 'laws.FnExactDiffsFrom'. -/
def fnExactDiffsFromCard : Claim7 := { stood := { row := fnExactDiffsFromRow, standIns := [], harness := (true, "beb463bcedd4628fe05652827a51c94b0278649e5918e2ff09b3d9e8bfd38f11"), looks := true }, kinds := [], alts := [], laidByText := true, laidKinds := [.data, .data, .data, .data, .sentinel, .sentinel, .pinned], laidTests := true, laidLooks := .later }
def FnExactDiffsFromCardSaid : Prop := Claim7.holds Tryz.pinned (.plain (OpenSpec.ofChange fnExactDiffsFromSpec)) fnExactDiffsFromCard

/-- THE TIED CARD OF 'laws.FnExactPutDiff'. -/
def fnExactPutDiffCard : Claim7 := { stood := { row := fnExactPutDiffRow, standIns := [], harness := (true, "beb463bcedd4628fe05652827a51c94b0278649e5918e2ff09b3d9e8bfd38f11"), looks := true }, kinds := [], alts := [], laidByText := true, laidKinds := [.data, .data, .data, .data, .sentinel, .sentinel, .pinned], laidTests := true, laidLooks := .later }
def FnExactPutDiffCardSaid : Prop := Claim7.holds Tryz.pinned (.plain (OpenSpec.ofChange fnExactPutDiffSpec)) fnExactPutDiffCard

/-- THE TIED CARD OF 'laws.FnExactJoinDiffs'. -/
def fnExactJoinDiffsCard : Claim7 := { stood := { row := fnExactJoinDiffsRow, standIns := [], harness := (true, "beb463bcedd4628fe05652827a51c94b0278649e5918e2ff09b3d9e8bfd38f11"), looks := true }, kinds := [], alts := [], laidByText := true, laidKinds := [.data, .data, .data, .data, .sentinel, .sentinel, .pinned], laidTests := true, laidLooks := .later }
def FnExactJoinDiffsCardSaid : Prop := Claim7.holds Tryz.pinned (.plain (OpenSpec.ofChange fnExactJoinDiffsSpec)) fnExactJoinDiffsCard

/-- THE TIED CARD OF 'laws.FnExactPassTime'. -/
def fnExactPassTimeCard : Claim7 := { stood := { row := fnExactPassTimeRow, standIns := [], harness := (true, "beb463bcedd4628fe05652827a51c94b0278649e5918e2ff09b3d9e8bfd38f11"), looks := true }, kinds := [], alts := [], laidByText := true, laidKinds := [.data, .data, .data, .data, .sentinel, .sentinel, .pinned], laidTests := true, laidLooks := .later }
def FnExactPassTimeCardSaid : Prop := Claim7.holds Tryz.pinned (.plain (OpenSpec.ofChange fnExactPassTimeSpec)) fnExactPassTimeCard

/-- THE TIED CARD OF 'laws.FnExactDropBelow'. -/
def fnExactDropBelowCard : Claim7 := { stood := { row := fnExactDropBelowRow, standIns := [], harness := (true, "beb463bcedd4628fe05652827a51c94b0278649e5918e2ff09b3d9e8bfd38f11"), looks := true }, kinds := [], alts := [], laidByText := true, laidKinds := [.data, .data, .data, .data, .sentinel, .sentinel, .pinned], laidTests := true, laidLooks := .later }
def FnExactDropBelowCardSaid : Prop := Claim7.holds Tryz.pinned (.plain (OpenSpec.ofChange fnExactDropBelowSpec)) fnExactDropBelowCard

/-- THE TIED CARD OF 'laws.FnExactIsThere'. -/
def fnExactIsThereCard : Claim7 := { stood := { row := fnExactIsThereRow, standIns := [], harness := (true, "beb463bcedd4628fe05652827a51c94b0278649e5918e2ff09b3d9e8bfd38f11"), looks := true }, kinds := [], alts := [], laidByText := true, laidKinds := [.data, .data, .data, .data, .sentinel, .sentinel, .pinned], laidTests := true, laidLooks := .later }
def FnExactIsThereCardSaid : Prop := Claim7.holds Tryz.pinned (.plain (OpenSpec.ofChange fnExactIsThereSpec)) fnExactIsThereCard

/-- THE TIED CARD OF 'laws.FnExactCutAbove'. -/
def fnExactCutAboveCard : Claim7 := { stood := { row := fnExactCutAboveRow, standIns := [], harness := (true, "beb463bcedd4628fe05652827a51c94b0278649e5918e2ff09b3d9e8bfd38f11"), looks := true }, kinds := [], alts := [], laidByText := true, laidKinds := [.data, .data, .data, .data, .sentinel, .sentinel, .pinned], laidTests := true, laidLooks := .later }
def FnExactCutAboveCardSaid : Prop := Claim7.holds Tryz.pinned (.plain (OpenSpec.ofChange fnExactCutAboveSpec)) fnExactCutAboveCard

/-- THE SECOND FORM's CARD OF 'laws.FnExactGoodDiff'. -/
def fnExactGoodDiffUptoCard : Claim7 := { stood := { row := fnExactGoodDiffUptoRow, standIns := [], harness := (true, "beb463bcedd4628fe05652827a51c94b0278649e5918e2ff09b3d9e8bfd38f11"), looks := true }, kinds := [], alts := [], laidByText := true, laidKinds := [.data, .data, .data, .data, .sentinel, .sentinel, .pinned], laidTests := true, laidLooks := .later }
def FnExactGoodDiffUptoCardSaid : Prop := Claim7.holds Tryz.pinned (.plain (OpenSpec.upto fnExactGoodDiffSpec)) fnExactGoodDiffUptoCard

/-- THE SECOND FORM's CARD OF 'laws.FnExactBackDiff'. -/
def fnExactBackDiffUptoCard : Claim7 := { stood := { row := fnExactBackDiffUptoRow, standIns := [], harness := (true, "beb463bcedd4628fe05652827a51c94b0278649e5918e2ff09b3d9e8bfd38f11"), looks := true }, kinds := [], alts := [], laidByText := true, laidKinds := [.data, .data, .data, .data, .sentinel, .sentinel, .pinned], laidTests := true, laidLooks := .later }
def FnExactBackDiffUptoCardSaid : Prop := Claim7.holds Tryz.pinned (.plain (OpenSpec.upto fnExactBackDiffSpec)) fnExactBackDiffUptoCard

/-- THE SECOND FORM's CARD OF 'laws.FnExactGoodJournal'. -/
def fnExactGoodJournalUptoCard : Claim7 := { stood := { row := fnExactGoodJournalUptoRow, standIns := [], harness := (true, "beb463bcedd4628fe05652827a51c94b0278649e5918e2ff09b3d9e8bfd38f11"), looks := true }, kinds := [], alts := [], laidByText := true, laidKinds := [.data, .data, .data, .data, .sentinel, .sentinel, .pinned], laidTests := true, laidLooks := .later }
def FnExactGoodJournalUptoCardSaid : Prop := Claim7.holds Tryz.pinned (.plain (OpenSpec.upto fnExactGoodJournalSpec)) fnExactGoodJournalUptoCard

/-- THE SECOND FORM's CARD OF 'laws.FnExactGoodCache'. -/
def fnExactGoodCacheUptoCard : Claim7 := { stood := { row := fnExactGoodCacheUptoRow, standIns := [], harness := (true, "beb463bcedd4628fe05652827a51c94b0278649e5918e2ff09b3d9e8bfd38f11"), looks := true }, kinds := [], alts := [], laidByText := true, laidKinds := [.data, .data, .data, .data, .sentinel, .sentinel, .pinned], laidTests := true, laidLooks := .later }
def FnExactGoodCacheUptoCardSaid : Prop := Claim7.holds Tryz.pinned (.plain (OpenSpec.upto fnExactGoodCacheSpec)) fnExactGoodCacheUptoCard

/-- THE SECOND FORM's CARD OF 'laws.FnExactOldestIn'. -/
def fnExactOldestInUptoCard : Claim7 := { stood := { row := fnExactOldestInUptoRow, standIns := [], harness := (true, "beb463bcedd4628fe05652827a51c94b0278649e5918e2ff09b3d9e8bfd38f11"), looks := true }, kinds := [], alts := [], laidByText := true, laidKinds := [.data, .data, .data, .data, .sentinel, .sentinel, .pinned], laidTests := true, laidLooks := .later }
def FnExactOldestInUptoCardSaid : Prop := Claim7.holds Tryz.pinned (.plain (OpenSpec.upto fnExactOldestInSpec)) fnExactOldestInUptoCard

/-- THE SECOND FORM's CARD OF 'laws.FnExactDiffsFrom'. -/
def fnExactDiffsFromUptoCard : Claim7 := { stood := { row := fnExactDiffsFromUptoRow, standIns := [], harness := (true, "beb463bcedd4628fe05652827a51c94b0278649e5918e2ff09b3d9e8bfd38f11"), looks := true }, kinds := [], alts := [], laidByText := true, laidKinds := [.data, .data, .data, .data, .sentinel, .sentinel, .pinned], laidTests := true, laidLooks := .later }
def FnExactDiffsFromUptoCardSaid : Prop := Claim7.holds Tryz.pinned (.plain (OpenSpec.upto fnExactDiffsFromSpec)) fnExactDiffsFromUptoCard

/-- THE SECOND FORM's CARD OF 'laws.FnExactPutDiff'. -/
def fnExactPutDiffUptoCard : Claim7 := { stood := { row := fnExactPutDiffUptoRow, standIns := [], harness := (true, "beb463bcedd4628fe05652827a51c94b0278649e5918e2ff09b3d9e8bfd38f11"), looks := true }, kinds := [], alts := [], laidByText := true, laidKinds := [.data, .data, .data, .data, .sentinel, .sentinel, .pinned], laidTests := true, laidLooks := .later }
def FnExactPutDiffUptoCardSaid : Prop := Claim7.holds Tryz.pinned (.plain (OpenSpec.upto fnExactPutDiffSpec)) fnExactPutDiffUptoCard

/-- THE SECOND FORM's CARD OF 'laws.FnExactJoinDiffs'. -/
def fnExactJoinDiffsUptoCard : Claim7 := { stood := { row := fnExactJoinDiffsUptoRow, standIns := [], harness := (true, "beb463bcedd4628fe05652827a51c94b0278649e5918e2ff09b3d9e8bfd38f11"), looks := true }, kinds := [], alts := [], laidByText := true, laidKinds := [.data, .data, .data, .data, .sentinel, .sentinel, .pinned], laidTests := true, laidLooks := .later }
def FnExactJoinDiffsUptoCardSaid : Prop := Claim7.holds Tryz.pinned (.plain (OpenSpec.upto fnExactJoinDiffsSpec)) fnExactJoinDiffsUptoCard

/-- THE SECOND FORM's CARD OF 'laws.FnExactPassTime'. -/
def fnExactPassTimeUptoCard : Claim7 := { stood := { row := fnExactPassTimeUptoRow, standIns := [], harness := (true, "beb463bcedd4628fe05652827a51c94b0278649e5918e2ff09b3d9e8bfd38f11"), looks := true }, kinds := [], alts := [], laidByText := true, laidKinds := [.data, .data, .data, .data, .sentinel, .sentinel, .pinned], laidTests := true, laidLooks := .later }
def FnExactPassTimeUptoCardSaid : Prop := Claim7.holds Tryz.pinned (.plain (OpenSpec.upto fnExactPassTimeSpec)) fnExactPassTimeUptoCard

/-- THE SECOND FORM's CARD OF 'laws.FnExactDropBelow'. -/
def fnExactDropBelowUptoCard : Claim7 := { stood := { row := fnExactDropBelowUptoRow, standIns := [], harness := (true, "beb463bcedd4628fe05652827a51c94b0278649e5918e2ff09b3d9e8bfd38f11"), looks := true }, kinds := [], alts := [], laidByText := true, laidKinds := [.data, .data, .data, .data, .sentinel, .sentinel, .pinned], laidTests := true, laidLooks := .later }
def FnExactDropBelowUptoCardSaid : Prop := Claim7.holds Tryz.pinned (.plain (OpenSpec.upto fnExactDropBelowSpec)) fnExactDropBelowUptoCard

/-- THE SECOND FORM's CARD OF 'laws.FnExactIsThere'. -/
def fnExactIsThereUptoCard : Claim7 := { stood := { row := fnExactIsThereUptoRow, standIns := [], harness := (true, "beb463bcedd4628fe05652827a51c94b0278649e5918e2ff09b3d9e8bfd38f11"), looks := true }, kinds := [], alts := [], laidByText := true, laidKinds := [.data, .data, .data, .data, .sentinel, .sentinel, .pinned], laidTests := true, laidLooks := .later }
def FnExactIsThereUptoCardSaid : Prop := Claim7.holds Tryz.pinned (.plain (OpenSpec.upto fnExactIsThereSpec)) fnExactIsThereUptoCard

/-- THE SECOND FORM's CARD OF 'laws.FnExactCutAbove'. -/
def fnExactCutAboveUptoCard : Claim7 := { stood := { row := fnExactCutAboveUptoRow, standIns := [], harness := (true, "beb463bcedd4628fe05652827a51c94b0278649e5918e2ff09b3d9e8bfd38f11"), looks := true }, kinds := [], alts := [], laidByText := true, laidKinds := [.data, .data, .data, .data, .sentinel, .sentinel, .pinned], laidTests := true, laidLooks := .later }
def FnExactCutAboveUptoCardSaid : Prop := Claim7.holds Tryz.pinned (.plain (OpenSpec.upto fnExactCutAboveSpec)) fnExactCutAboveUptoCard
end Rows
end Go.Proofs.YthohohfmdieohaaGreatDoor
