/-
  DERIVED. GIVEN WITH THE SEED: THE CARDS: each row of YtioefechhknnlaaGreatDoorRows.lean that lists a variable, with what it lists TIED to the program's text (the seventh form; the later family's looks); each row that meets fmt, with fmt's text TOLD by the authors' own Lean function (tested against real Go, not proved from fmt's source: count such statements apart). THE CARD IS WHAT COUNTS. Prove the row's statement (the work); the ties are given (YtioefechhknnlaaGreatDoorTie.lean); close each card by the builder's one call (the guide's Derived/Test/ToyasCard.lean, 'card_holds'). Laid BY PROGRAM, IN A SANDBOX (cutbox-door.mjs). By AI agents, Wed Nov 11 2026. No macro, syntax, notation, axiom, sorry.
-/
import Derived.Test.YtioefechhknnlaaGreatDoorRows
import GoSem.ClaimSeven
namespace Go.Proofs.YtioefechhknnlaaGreatDoor
namespace Rows

/-- THE TIED CARD OF 'laws.FnExactEncloserOf'. -/
def fnExactEncloserOfCard : Claim7 := { stood := { row := fnExactEncloserOfRow, standIns := [], harness := (true, "2b1c9ea4bf982221146e1a0f01eb70fbe7466642cc478b8bf9e3182885c0fc20"), looks := true }, kinds := [], alts := [], laidByText := true, laidKinds := [.data, .data, .data, .data, .sentinel, .sentinel, .pinned], laidTests := true, laidLooks := .later }
def FnExactEncloserOfCardSaid : Prop := Claim7.holds Tryz.pinned (.plain (OpenSpec.ofChange fnExactEncloserOfSpec)) fnExactEncloserOfCard

/-- THE TIED CARD OF 'laws.FnExactGoodWorld'. -/
def fnExactGoodWorldCard : Claim7 := { stood := { row := fnExactGoodWorldRow, standIns := [], harness := (true, "2b1c9ea4bf982221146e1a0f01eb70fbe7466642cc478b8bf9e3182885c0fc20"), looks := true }, kinds := [], alts := [], laidByText := true, laidKinds := [.data, .data, .data, .data, .sentinel, .sentinel, .pinned], laidTests := true, laidLooks := .later }
def FnExactGoodWorldCardSaid : Prop := Claim7.holds Tryz.pinned (.plain (OpenSpec.ofChange fnExactGoodWorldSpec)) fnExactGoodWorldCard

/-- THE TIED CARD OF 'laws.FnExactZoneFor'. -/
def fnExactZoneForCard : Claim7 := { stood := { row := fnExactZoneForRow, standIns := [], harness := (true, "2b1c9ea4bf982221146e1a0f01eb70fbe7466642cc478b8bf9e3182885c0fc20"), looks := true }, kinds := [], alts := [], laidByText := true, laidKinds := [.data, .data, .data, .data, .sentinel, .sentinel, .pinned], laidTests := true, laidLooks := .later }
def FnExactZoneForCardSaid : Prop := Claim7.holds Tryz.pinned (.plain (OpenSpec.ofChange fnExactZoneForSpec)) fnExactZoneForCard

/-- THE TIED CARD OF 'laws.FnExactDiffOf'. -/
def fnExactDiffOfCard : Claim7 := { stood := { row := fnExactDiffOfRow, standIns := [], harness := (true, "2b1c9ea4bf982221146e1a0f01eb70fbe7466642cc478b8bf9e3182885c0fc20"), looks := true }, kinds := [], alts := [], laidByText := true, laidKinds := [.data, .data, .data, .data, .sentinel, .sentinel, .pinned], laidTests := true, laidLooks := .later }
def FnExactDiffOfCardSaid : Prop := Claim7.holds Tryz.pinned (.plain (OpenSpec.ofChange fnExactDiffOfSpec)) fnExactDiffOfCard

/-- THE TIED CARD OF 'laws.FnExactGlueFor'. -/
def fnExactGlueForCard : Claim7 := { stood := { row := fnExactGlueForRow, standIns := [], harness := (true, "2b1c9ea4bf982221146e1a0f01eb70fbe7466642cc478b8bf9e3182885c0fc20"), looks := true }, kinds := [], alts := [], laidByText := true, laidKinds := [.data, .data, .data, .data, .sentinel, .sentinel, .pinned], laidTests := true, laidLooks := .later }
def FnExactGlueForCardSaid : Prop := Claim7.holds Tryz.pinned (.plain (OpenSpec.ofChange fnExactGlueForSpec)) fnExactGlueForCard

/-- THE TIED CARD OF 'laws.FnExactNewJournal'. -/
def fnExactNewJournalCard : Claim7 := { stood := { row := fnExactNewJournalRow, standIns := [], harness := (true, "2b1c9ea4bf982221146e1a0f01eb70fbe7466642cc478b8bf9e3182885c0fc20"), looks := true }, kinds := [], alts := [], laidByText := true, laidKinds := [.data, .data, .data, .data, .sentinel, .sentinel, .pinned], laidTests := true, laidLooks := .later }
def FnExactNewJournalCardSaid : Prop := Claim7.holds Tryz.pinned (.plain (OpenSpec.ofChange fnExactNewJournalSpec)) fnExactNewJournalCard

/-- THE TIED CARD OF 'laws.FnExactGapsOf'. -/
def fnExactGapsOfCard : Claim7 := { stood := { row := fnExactGapsOfRow, standIns := [], harness := (true, "2b1c9ea4bf982221146e1a0f01eb70fbe7466642cc478b8bf9e3182885c0fc20"), looks := true }, kinds := [], alts := [], laidByText := true, laidKinds := [.data, .data, .data, .data, .sentinel, .sentinel, .pinned], laidTests := true, laidLooks := .later }
def FnExactGapsOfCardSaid : Prop := Claim7.holds Tryz.pinned (.plain (OpenSpec.ofChange fnExactGapsOfSpec)) fnExactGapsOfCard

/-- THE TIED CARD OF 'laws.FnExactLookUp'. -/
def fnExactLookUpCard : Claim7 := { stood := { row := fnExactLookUpRow, standIns := [], harness := (true, "2b1c9ea4bf982221146e1a0f01eb70fbe7466642cc478b8bf9e3182885c0fc20"), looks := true }, kinds := [], alts := [], laidByText := true, laidKinds := [.data, .data, .data, .data, .sentinel, .sentinel, .pinned], laidTests := true, laidLooks := .later }
def FnExactLookUpCardSaid : Prop := Claim7.holds Tryz.pinned (.plain (OpenSpec.ofChange fnExactLookUpSpec)) fnExactLookUpCard

/-- THE TIED CARD OF 'laws.FnExactChaseIn'. -/
def fnExactChaseInCard : Claim7 := { stood := { row := fnExactChaseInRow, standIns := [], harness := (true, "2b1c9ea4bf982221146e1a0f01eb70fbe7466642cc478b8bf9e3182885c0fc20"), looks := true }, kinds := [], alts := [], laidByText := true, laidKinds := [.data, .data, .data, .data, .sentinel, .sentinel, .pinned], laidTests := true, laidLooks := .later }
def FnExactChaseInCardSaid : Prop := Claim7.holds Tryz.pinned (.plain (OpenSpec.ofChange fnExactChaseInSpec)) fnExactChaseInCard

/-- THE TIED CARD OF 'laws.FnExactProveAbsent'. -/
def fnExactProveAbsentCard : Claim7 := { stood := { row := fnExactProveAbsentRow, standIns := [], harness := (true, "2b1c9ea4bf982221146e1a0f01eb70fbe7466642cc478b8bf9e3182885c0fc20"), looks := true }, kinds := [], alts := [], laidByText := true, laidKinds := [.data, .data, .data, .data, .sentinel, .sentinel, .pinned], laidTests := true, laidLooks := .later }
def FnExactProveAbsentCardSaid : Prop := Claim7.holds Tryz.pinned (.plain (OpenSpec.ofChange fnExactProveAbsentSpec)) fnExactProveAbsentCard

/-- THE SECOND FORM's CARD OF 'laws.FnExactEncloserOf'. -/
def fnExactEncloserOfUptoCard : Claim7 := { stood := { row := fnExactEncloserOfUptoRow, standIns := [], harness := (true, "2b1c9ea4bf982221146e1a0f01eb70fbe7466642cc478b8bf9e3182885c0fc20"), looks := true }, kinds := [], alts := [], laidByText := true, laidKinds := [.data, .data, .data, .data, .sentinel, .sentinel, .pinned], laidTests := true, laidLooks := .later }
def FnExactEncloserOfUptoCardSaid : Prop := Claim7.holds Tryz.pinned (.plain (OpenSpec.upto fnExactEncloserOfSpec)) fnExactEncloserOfUptoCard

/-- THE SECOND FORM's CARD OF 'laws.FnExactGoodWorld'. -/
def fnExactGoodWorldUptoCard : Claim7 := { stood := { row := fnExactGoodWorldUptoRow, standIns := [], harness := (true, "2b1c9ea4bf982221146e1a0f01eb70fbe7466642cc478b8bf9e3182885c0fc20"), looks := true }, kinds := [], alts := [], laidByText := true, laidKinds := [.data, .data, .data, .data, .sentinel, .sentinel, .pinned], laidTests := true, laidLooks := .later }
def FnExactGoodWorldUptoCardSaid : Prop := Claim7.holds Tryz.pinned (.plain (OpenSpec.upto fnExactGoodWorldSpec)) fnExactGoodWorldUptoCard

/-- THE SECOND FORM's CARD OF 'laws.FnExactZoneFor'. -/
def fnExactZoneForUptoCard : Claim7 := { stood := { row := fnExactZoneForUptoRow, standIns := [], harness := (true, "2b1c9ea4bf982221146e1a0f01eb70fbe7466642cc478b8bf9e3182885c0fc20"), looks := true }, kinds := [], alts := [], laidByText := true, laidKinds := [.data, .data, .data, .data, .sentinel, .sentinel, .pinned], laidTests := true, laidLooks := .later }
def FnExactZoneForUptoCardSaid : Prop := Claim7.holds Tryz.pinned (.plain (OpenSpec.upto fnExactZoneForSpec)) fnExactZoneForUptoCard

/-- THE SECOND FORM's CARD OF 'laws.FnExactDiffOf'. -/
def fnExactDiffOfUptoCard : Claim7 := { stood := { row := fnExactDiffOfUptoRow, standIns := [], harness := (true, "2b1c9ea4bf982221146e1a0f01eb70fbe7466642cc478b8bf9e3182885c0fc20"), looks := true }, kinds := [], alts := [], laidByText := true, laidKinds := [.data, .data, .data, .data, .sentinel, .sentinel, .pinned], laidTests := true, laidLooks := .later }
def FnExactDiffOfUptoCardSaid : Prop := Claim7.holds Tryz.pinned (.plain (OpenSpec.upto fnExactDiffOfSpec)) fnExactDiffOfUptoCard

/-- THE SECOND FORM's CARD OF 'laws.FnExactGlueFor'. -/
def fnExactGlueForUptoCard : Claim7 := { stood := { row := fnExactGlueForUptoRow, standIns := [], harness := (true, "2b1c9ea4bf982221146e1a0f01eb70fbe7466642cc478b8bf9e3182885c0fc20"), looks := true }, kinds := [], alts := [], laidByText := true, laidKinds := [.data, .data, .data, .data, .sentinel, .sentinel, .pinned], laidTests := true, laidLooks := .later }
def FnExactGlueForUptoCardSaid : Prop := Claim7.holds Tryz.pinned (.plain (OpenSpec.upto fnExactGlueForSpec)) fnExactGlueForUptoCard

/-- THE SECOND FORM's CARD OF 'laws.FnExactNewJournal'. -/
def fnExactNewJournalUptoCard : Claim7 := { stood := { row := fnExactNewJournalUptoRow, standIns := [], harness := (true, "2b1c9ea4bf982221146e1a0f01eb70fbe7466642cc478b8bf9e3182885c0fc20"), looks := true }, kinds := [], alts := [], laidByText := true, laidKinds := [.data, .data, .data, .data, .sentinel, .sentinel, .pinned], laidTests := true, laidLooks := .later }
def FnExactNewJournalUptoCardSaid : Prop := Claim7.holds Tryz.pinned (.plain (OpenSpec.upto fnExactNewJournalSpec)) fnExactNewJournalUptoCard

/-- THE SECOND FORM's CARD OF 'laws.FnExactGapsOf'. -/
def fnExactGapsOfUptoCard : Claim7 := { stood := { row := fnExactGapsOfUptoRow, standIns := [], harness := (true, "2b1c9ea4bf982221146e1a0f01eb70fbe7466642cc478b8bf9e3182885c0fc20"), looks := true }, kinds := [], alts := [], laidByText := true, laidKinds := [.data, .data, .data, .data, .sentinel, .sentinel, .pinned], laidTests := true, laidLooks := .later }
def FnExactGapsOfUptoCardSaid : Prop := Claim7.holds Tryz.pinned (.plain (OpenSpec.upto fnExactGapsOfSpec)) fnExactGapsOfUptoCard

/-- THE SECOND FORM's CARD OF 'laws.FnExactLookUp'. -/
def fnExactLookUpUptoCard : Claim7 := { stood := { row := fnExactLookUpUptoRow, standIns := [], harness := (true, "2b1c9ea4bf982221146e1a0f01eb70fbe7466642cc478b8bf9e3182885c0fc20"), looks := true }, kinds := [], alts := [], laidByText := true, laidKinds := [.data, .data, .data, .data, .sentinel, .sentinel, .pinned], laidTests := true, laidLooks := .later }
def FnExactLookUpUptoCardSaid : Prop := Claim7.holds Tryz.pinned (.plain (OpenSpec.upto fnExactLookUpSpec)) fnExactLookUpUptoCard

/-- THE SECOND FORM's CARD OF 'laws.FnExactChaseIn'. -/
def fnExactChaseInUptoCard : Claim7 := { stood := { row := fnExactChaseInUptoRow, standIns := [], harness := (true, "2b1c9ea4bf982221146e1a0f01eb70fbe7466642cc478b8bf9e3182885c0fc20"), looks := true }, kinds := [], alts := [], laidByText := true, laidKinds := [.data, .data, .data, .data, .sentinel, .sentinel, .pinned], laidTests := true, laidLooks := .later }
def FnExactChaseInUptoCardSaid : Prop := Claim7.holds Tryz.pinned (.plain (OpenSpec.upto fnExactChaseInSpec)) fnExactChaseInUptoCard

/-- THE SECOND FORM's CARD OF 'laws.FnExactProveAbsent'. -/
def fnExactProveAbsentUptoCard : Claim7 := { stood := { row := fnExactProveAbsentUptoRow, standIns := [], harness := (true, "2b1c9ea4bf982221146e1a0f01eb70fbe7466642cc478b8bf9e3182885c0fc20"), looks := true }, kinds := [], alts := [], laidByText := true, laidKinds := [.data, .data, .data, .data, .sentinel, .sentinel, .pinned], laidTests := true, laidLooks := .later }
def FnExactProveAbsentUptoCardSaid : Prop := Claim7.holds Tryz.pinned (.plain (OpenSpec.upto fnExactProveAbsentSpec)) fnExactProveAbsentUptoCard
end Rows
end Go.Proofs.YtioefechhknnlaaGreatDoor
