-- pp
import Derived.Test.YthckpgglghfiiaaDoorRows
import Derived.Test.YthckpgglghfiiaaDoorTie
import Derived.Test.YthckpgglghfiiaaDoorCards
import Derived.WalkKit
import Derived.ProofKit
import Derived.OpenShut
import Derived.ShutString
import Derived.ChangeOld
import Derived.Below
import Derived.SizedLaws
import Derived.Carry
import Derived.LaidMore
import Derived.Lay
import Derived.SevenTiedAt
import Derived.Stop.Joined
import Derived.Test.YthckpgglghfiiaaDoorZLawFnExactGapForb
import Derived.Test.YthckpgglghfiiaaDoorLawFnExactGapForc
namespace Go.Proofs.YthckpgglghfiiaaDoor.fnExactGapFor
open Go.ChangeShapes Go.WideShapes Go.ChangeAt Go.RowKit Go.Proofs.YthckpgglghfiiaaDoor.PR Go.Proofs.YthckpgglghfiiaaDoor.Pp Go.Proofs.YthckpgglghfiiaaDoorW.PrintWords
open Go.ChangeMaps (open_string shut_string)
set_option linter.unusedVariables false
theorem proved : Rows.FnExactGapForCardSaid :=
  Claim7.holds_tied_plain_at .later [] [.data, .pinned] true (true, "cb87c1219d048ddf424901ebcd42e702b31b9f379267189f2eac78d926a7f856") false over (fun _ h => by cases h) pf_w (fun _ h => by cases h) fnExactGapFor_row_tie rfl ⟨rfl, rfl⟩ pf_m rfl
    (fun f fn hf hfn => by
      obtain rfl : f = 12 := Option.some.inj (pf_n.symm.trans hf) |>.symm
      obtain rfl : fn = Tryd.f12 := (Option.some.inj (Tryd.func12.symm.trans hfn)).symm
      exact ⟨pf_l, fun j t ht => by
        rw [Tryd.params12] at ht
        have hm : t ∈ [58, 9] := by simpa using Array.mem_of_getElem? ht
        have hall : ([58, 9].all fun u => !Tryd.prog.wantsStandIn u) = true := by kernel_rfl
        exact (show Tryd.prog.wantsStandIn t = false by simpa using List.all_eq_true.1 hall t hm)⟩)
    pf_g
#print axioms proved
end Go.Proofs.YthckpgglghfiiaaDoor.fnExactGapFor
namespace Go.Proofs.YthckpgglghfiiaaDoor
/-- The row, under a short name, for the claim. -/
theorem fnExactGapFor_holds : Rows.FnExactGapForCardSaid := fnExactGapFor.proved
end Go.Proofs.YthckpgglghfiiaaDoor
