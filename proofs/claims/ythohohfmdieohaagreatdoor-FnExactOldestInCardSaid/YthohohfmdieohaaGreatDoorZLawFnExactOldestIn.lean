-- By pp.py, a program of this workplace (wip/pp), out of the translation.
import Derived.Test.YthohohfmdieohaaGreatDoorRows
import Derived.Test.YthohohfmdieohaaGreatDoorTie
import Derived.Test.YthohohfmdieohaaGreatDoorCards
import Derived.WalkKit
import Derived.ProofKit
import Derived.OpenShut
import Derived.ShutString
import Derived.ChangeOld
import Derived.Below
import Derived.SizedLaws
import Derived.Carry
import Derived.LaidMore
import Derived.Lay
import Derived.SevenTiedAt
import Derived.Stop.Joined
import Derived.Test.YthohohfmdieohaaGreatDoorZLawFnExactOldestInb
import Derived.Test.YthohohfmdieohaaGreatDoorLawFnExactOldestInc
namespace Go.Proofs.YthohohfmdieohaaGreatDoor.fnExactOldestIn
open Go.ChangeShapes Go.WideShapes Go.ChangeAt Go.RowKit Go.Proofs.YthohohfmdieohaaGreatDoor.PR Go.Proofs.YthohohfmdieohaaGreatDoor.Pp Go.Proofs.YthohohfmdieohaaGreatDoorW.PrintWords
open Go.ChangeMaps (open_string shut_string)
set_option linter.unusedVariables false
theorem proved : Rows.FnExactOldestInCardSaid :=
  Claim7.holds_tied_plain_at .later [] [.data, .data, .data, .data, .sentinel, .sentinel, .pinned] true (true, "beb463bcedd4628fe05652827a51c94b0278649e5918e2ff09b3d9e8bfd38f11") true over (fun _ h => by cases h) pf_w (fun _ h => by cases h) fnExactOldestIn_row_tie rfl ⟨rfl, rfl⟩ pf_m rfl
    (fun f fn hf hfn => by
      obtain rfl : f = 7 := Option.some.inj (pf_n.symm.trans hf) |>.symm
      obtain rfl : fn = Tryz.f7 := (Option.some.inj (Tryz.func7.symm.trans hfn)).symm
      exact ⟨pf_l, fun j t ht => by
        rw [Tryz.params7] at ht
        have hm : t ∈ [49] := by simpa using Array.mem_of_getElem? ht
        have hall : ([49].all fun u => !Tryz.prog.wantsStandIn u) = true := by kernel_rfl
        exact (show Tryz.prog.wantsStandIn t = false by simpa using List.all_eq_true.1 hall t hm)⟩)
    pf_g
#print axioms proved
end Go.Proofs.YthohohfmdieohaaGreatDoor.fnExactOldestIn
namespace Go.Proofs.YthohohfmdieohaaGreatDoor
/-- The row, under a short name, for the claim. -/
theorem fnExactOldestIn_holds : Rows.FnExactOldestInCardSaid := fnExactOldestIn.proved
end Go.Proofs.YthohohfmdieohaaGreatDoor
