/-
  DERIVED. GIVEN WITH THE SEED: THE CARDS: each row of YthckpgglghfiiaaDoorRows.lean that lists a variable, with what it lists TIED to the program's text (the seventh form; the later family's looks); each row that meets fmt, with fmt's text TOLD by the authors' own Lean function (tested against real Go, not proved from fmt's source: count such statements apart). THE CARD IS WHAT COUNTS. Prove the row's statement (the work); the ties are given (YthckpgglghfiiaaDoorTie.lean); close each card by the builder's one call (the guide's Derived/Test/ToyasCard.lean, 'card_holds'). Laid BY PROGRAM, IN A SANDBOX (cutbox-door.mjs). By AI agents, Wed Nov 11 2026. No macro, syntax, notation, axiom, sorry.
-/
import Derived.Test.YthckpgglghfiiaaDoorRows
import GoSem.ClaimSeven
namespace Go.Proofs.YthckpgglghfiiaaDoor
namespace Rows

/-- THE TIED CARD OF 'laws.FnExactGoodHealth'. -/
def fnExactGoodHealthCard : Claim7 := { stood := { row := fnExactGoodHealthRow, standIns := [], harness := (true, "cb87c1219d048ddf424901ebcd42e702b31b9f379267189f2eac78d926a7f856"), looks := false }, kinds := [], alts := [], laidByText := true, laidKinds := [.data, .pinned], laidTests := true, laidLooks := .later }
def FnExactGoodHealthCardSaid : Prop := Claim7.holds Tryd.pinned (.plain (OpenSpec.ofChange fnExactGoodHealthSpec)) fnExactGoodHealthCard

/-- THE TIED CARD OF 'laws.FnExactRowOf'. -/
def fnExactRowOfCard : Claim7 := { stood := { row := fnExactRowOfRow, standIns := [], harness := (true, "cb87c1219d048ddf424901ebcd42e702b31b9f379267189f2eac78d926a7f856"), looks := false }, kinds := [], alts := [], laidByText := true, laidKinds := [.data, .pinned], laidTests := true, laidLooks := .later }
def FnExactRowOfCardSaid : Prop := Claim7.holds Tryd.pinned (.plain (OpenSpec.ofChange fnExactRowOfSpec)) fnExactRowOfCard

/-- THE TIED CARD OF 'laws.FnExactIsUp'. -/
def fnExactIsUpCard : Claim7 := { stood := { row := fnExactIsUpRow, standIns := [], harness := (true, "cb87c1219d048ddf424901ebcd42e702b31b9f379267189f2eac78d926a7f856"), looks := false }, kinds := [], alts := [], laidByText := true, laidKinds := [.data, .pinned], laidTests := true, laidLooks := .later }
def FnExactIsUpCardSaid : Prop := Claim7.holds Tryd.pinned (.plain (OpenSpec.ofChange fnExactIsUpSpec)) fnExactIsUpCard

/-- THE TIED CARD OF 'laws.FnExactCovers'. -/
def fnExactCoversCard : Claim7 := { stood := { row := fnExactCoversRow, standIns := [], harness := (true, "cb87c1219d048ddf424901ebcd42e702b31b9f379267189f2eac78d926a7f856"), looks := false }, kinds := [], alts := [], laidByText := true, laidKinds := [.data, .pinned], laidTests := true, laidLooks := .later }
def FnExactCoversCardSaid : Prop := Claim7.holds Tryd.pinned (.plain (OpenSpec.ofChange fnExactCoversSpec)) fnExactCoversCard

/-- THE TIED CARD OF 'laws.FnExactNewHealth'. -/
def fnExactNewHealthCard : Claim7 := { stood := { row := fnExactNewHealthRow, standIns := [], harness := (true, "cb87c1219d048ddf424901ebcd42e702b31b9f379267189f2eac78d926a7f856"), looks := false }, kinds := [], alts := [], laidByText := true, laidKinds := [.data, .pinned], laidTests := true, laidLooks := .later }
def FnExactNewHealthCardSaid : Prop := Claim7.holds Tryd.pinned (.plain (OpenSpec.ofChange fnExactNewHealthSpec)) fnExactNewHealthCard

/-- THE TIED CARD OF 'laws.FnExactUpIn'. -/
def fnExactUpInCard : Claim7 := { stood := { row := fnExactUpInRow, standIns := [], harness := (true, "cb87c1219d048ddf424901ebcd42e702b31b9f379267189f2eac78d926a7f856"), looks := false }, kinds := [], alts := [], laidByText := true, laidKinds := [.data, .pinned], laidTests := true, laidLooks := .later }
def FnExactUpInCardSaid : Prop := Claim7.holds Tryd.pinned (.plain (OpenSpec.ofChange fnExactUpInSpec)) fnExactUpInCard

/-- THE TIED CARD OF 'laws.FnExactGoodGaps'. -/
def fnExactGoodGapsCard : Claim7 := { stood := { row := fnExactGoodGapsRow, standIns := [], harness := (true, "cb87c1219d048ddf424901ebcd42e702b31b9f379267189f2eac78d926a7f856"), looks := false }, kinds := [], alts := [], laidByText := true, laidKinds := [.data, .pinned], laidTests := true, laidLooks := .later }
def FnExactGoodGapsCardSaid : Prop := Claim7.holds Tryd.pinned (.plain (OpenSpec.ofChange fnExactGoodGapsSpec)) fnExactGoodGapsCard

/-- THE TIED CARD OF 'laws.FnExactClosestBy'. -/
def fnExactClosestByCard : Claim7 := { stood := { row := fnExactClosestByRow, standIns := [], harness := (true, "cb87c1219d048ddf424901ebcd42e702b31b9f379267189f2eac78d926a7f856"), looks := false }, kinds := [], alts := [], laidByText := true, laidKinds := [.data, .pinned], laidTests := true, laidLooks := .later }
def FnExactClosestByCardSaid : Prop := Claim7.holds Tryd.pinned (.plain (OpenSpec.ofChange fnExactClosestBySpec)) fnExactClosestByCard

/-- THE TIED CARD OF 'laws.FnExactCheckAbsent'. -/
def fnExactCheckAbsentCard : Claim7 := { stood := { row := fnExactCheckAbsentRow, standIns := [], harness := (true, "cb87c1219d048ddf424901ebcd42e702b31b9f379267189f2eac78d926a7f856"), looks := false }, kinds := [], alts := [], laidByText := true, laidKinds := [.data, .pinned], laidTests := true, laidLooks := .later }
def FnExactCheckAbsentCardSaid : Prop := Claim7.holds Tryd.pinned (.plain (OpenSpec.ofChange fnExactCheckAbsentSpec)) fnExactCheckAbsentCard

/-- THE TIED CARD OF 'laws.FnExactGapFor'. -/
def fnExactGapForCard : Claim7 := { stood := { row := fnExactGapForRow, standIns := [], harness := (true, "cb87c1219d048ddf424901ebcd42e702b31b9f379267189f2eac78d926a7f856"), looks := false }, kinds := [], alts := [], laidByText := true, laidKinds := [.data, .pinned], laidTests := true, laidLooks := .later }
def FnExactGapForCardSaid : Prop := Claim7.holds Tryd.pinned (.plain (OpenSpec.ofChange fnExactGapForSpec)) fnExactGapForCard

/-- THE SECOND FORM's CARD OF 'laws.FnExactGoodHealth'. -/
def fnExactGoodHealthUptoCard : Claim7 := { stood := { row := fnExactGoodHealthUptoRow, standIns := [], harness := (true, "cb87c1219d048ddf424901ebcd42e702b31b9f379267189f2eac78d926a7f856"), looks := false }, kinds := [], alts := [], laidByText := true, laidKinds := [.data, .pinned], laidTests := true, laidLooks := .later }
def FnExactGoodHealthUptoCardSaid : Prop := Claim7.holds Tryd.pinned (.plain (OpenSpec.upto fnExactGoodHealthSpec)) fnExactGoodHealthUptoCard

/-- THE SECOND FORM's CARD OF 'laws.FnExactRowOf'. -/
def fnExactRowOfUptoCard : Claim7 := { stood := { row := fnExactRowOfUptoRow, standIns := [], harness := (true, "cb87c1219d048ddf424901ebcd42e702b31b9f379267189f2eac78d926a7f856"), looks := false }, kinds := [], alts := [], laidByText := true, laidKinds := [.data, .pinned], laidTests := true, laidLooks := .later }
def FnExactRowOfUptoCardSaid : Prop := Claim7.holds Tryd.pinned (.plain (OpenSpec.upto fnExactRowOfSpec)) fnExactRowOfUptoCard

/-- THE SECOND FORM's CARD OF 'laws.FnExactIsUp'. -/
def fnExactIsUpUptoCard : Claim7 := { stood := { row := fnExactIsUpUptoRow, standIns := [], harness := (true, "cb87c1219d048ddf424901ebcd42e702b31b9f379267189f2eac78d926a7f856"), looks := false }, kinds := [], alts := [], laidByText := true, laidKinds := [.data, .pinned], laidTests := true, laidLooks := .later }
def FnExactIsUpUptoCardSaid : Prop := Claim7.holds Tryd.pinned (.plain (OpenSpec.upto fnExactIsUpSpec)) fnExactIsUpUptoCard

/-- THE SECOND FORM's CARD OF 'laws.FnExactCovers'. -/
def fnExactCoversUptoCard : Claim7 := { stood := { row := fnExactCoversUptoRow, standIns := [], harness := (true, "cb87c1219d048ddf424901ebcd42e702b31b9f379267189f2eac78d926a7f856"), looks := false }, kinds := [], alts := [], laidByText := true, laidKinds := [.data, .pinned], laidTests := true, laidLooks := .later }
def FnExactCoversUptoCardSaid : Prop := Claim7.holds Tryd.pinned (.plain (OpenSpec.upto fnExactCoversSpec)) fnExactCoversUptoCard

/-- THE SECOND FORM's CARD OF 'laws.FnExactNewHealth'. -/
def fnExactNewHealthUptoCard : Claim7 := { stood := { row := fnExactNewHealthUptoRow, standIns := [], harness := (true, "cb87c1219d048ddf424901ebcd42e702b31b9f379267189f2eac78d926a7f856"), looks := false }, kinds := [], alts := [], laidByText := true, laidKinds := [.data, .pinned], laidTests := true, laidLooks := .later }
def FnExactNewHealthUptoCardSaid : Prop := Claim7.holds Tryd.pinned (.plain (OpenSpec.upto fnExactNewHealthSpec)) fnExactNewHealthUptoCard

/-- THE SECOND FORM's CARD OF 'laws.FnExactUpIn'. -/
def fnExactUpInUptoCard : Claim7 := { stood := { row := fnExactUpInUptoRow, standIns := [], harness := (true, "cb87c1219d048ddf424901ebcd42e702b31b9f379267189f2eac78d926a7f856"), looks := false }, kinds := [], alts := [], laidByText := true, laidKinds := [.data, .pinned], laidTests := true, laidLooks := .later }
def FnExactUpInUptoCardSaid : Prop := Claim7.holds Tryd.pinned (.plain (OpenSpec.upto fnExactUpInSpec)) fnExactUpInUptoCard

/-- THE SECOND FORM's CARD OF 'laws.FnExactGoodGaps'. -/
def fnExactGoodGapsUptoCard : Claim7 := { stood := { row := fnExactGoodGapsUptoRow, standIns := [], harness := (true, "cb87c1219d048ddf424901ebcd42e702b31b9f379267189f2eac78d926a7f856"), looks := false }, kinds := [], alts := [], laidByText := true, laidKinds := [.data, .pinned], laidTests := true, laidLooks := .later }
def FnExactGoodGapsUptoCardSaid : Prop := Claim7.holds Tryd.pinned (.plain (OpenSpec.upto fnExactGoodGapsSpec)) fnExactGoodGapsUptoCard

/-- THE SECOND FORM's CARD OF 'laws.FnExactClosestBy'. -/
def fnExactClosestByUptoCard : Claim7 := { stood := { row := fnExactClosestByUptoRow, standIns := [], harness := (true, "cb87c1219d048ddf424901ebcd42e702b31b9f379267189f2eac78d926a7f856"), looks := false }, kinds := [], alts := [], laidByText := true, laidKinds := [.data, .pinned], laidTests := true, laidLooks := .later }
def FnExactClosestByUptoCardSaid : Prop := Claim7.holds Tryd.pinned (.plain (OpenSpec.upto fnExactClosestBySpec)) fnExactClosestByUptoCard

/-- THE SECOND FORM's CARD OF 'laws.FnExactCheckAbsent'. -/
def fnExactCheckAbsentUptoCard : Claim7 := { stood := { row := fnExactCheckAbsentUptoRow, standIns := [], harness := (true, "cb87c1219d048ddf424901ebcd42e702b31b9f379267189f2eac78d926a7f856"), looks := false }, kinds := [], alts := [], laidByText := true, laidKinds := [.data, .pinned], laidTests := true, laidLooks := .later }
def FnExactCheckAbsentUptoCardSaid : Prop := Claim7.holds Tryd.pinned (.plain (OpenSpec.upto fnExactCheckAbsentSpec)) fnExactCheckAbsentUptoCard

/-- THE SECOND FORM's CARD OF 'laws.FnExactGapFor'. -/
def fnExactGapForUptoCard : Claim7 := { stood := { row := fnExactGapForUptoRow, standIns := [], harness := (true, "cb87c1219d048ddf424901ebcd42e702b31b9f379267189f2eac78d926a7f856"), looks := false }, kinds := [], alts := [], laidByText := true, laidKinds := [.data, .pinned], laidTests := true, laidLooks := .later }
def FnExactGapForUptoCardSaid : Prop := Claim7.holds Tryd.pinned (.plain (OpenSpec.upto fnExactGapForSpec)) fnExactGapForUptoCard
end Rows
end Go.Proofs.YthckpgglghfiiaaDoor
