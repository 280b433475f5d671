
import Derived.Test.YthohohfmdieohaaGreatDoorRows
import Derived.Test.YthohohfmdieohaaGreatDoorTie
import Derived.Test.YthohohfmdieohaaGreatDoorCards
import Derived.WalkKit
import Derived.ProofKit
import Derived.OpenShut
import Derived.ShutString
import Derived.ChangeOld
import Derived.Below
import Derived.SizedLaws
import Derived.Carry
import Derived.LaidMore
import Derived.Lay
import Derived.SevenTiedAt
import Derived.Stop.Joined
import Derived.Test.YthohohfmdieohaaGreatDoorZLawFnExactDropBelowb
import Derived.Test.YthohohfmdieohaaGreatDoorLawFnExactDropBelowc
namespace Go.Proofs.YthohohfmdieohaaGreatDoor.fnExactDropBelow
open Go.ChangeShapes Go.WideShapes Go.ChangeAt Go.RowKit Go.Proofs.YthohohfmdieohaaGreatDoor.PR Go.Proofs.YthohohfmdieohaaGreatDoor.Pp Go.Proofs.YthohohfmdieohaaGreatDoorW.PrintWords
open Go.ChangeMaps (open_string shut_string)
set_option linter.unusedVariables false
theorem proved:Rows.FnExactDropBelowCardSaid :=
  Claim7.holds_tied_plain_at .later [] [.data,.data,.data,.data,.sentinel,.sentinel,.pinned] true (true, "beb463bcedd4628fe05652827a51c94b0278649e5918e2ff09b3d9e8bfd38f11") true over (fun _ h=>by cases h) pf_w (fun _ h=>by cases h) fnExactDropBelow_row_tie rfl ⟨rfl,rfl⟩ pf_m rfl
    (fun f fn hf hfn=>by
      obtain rfl:f=12:=Option.some.inj (pf_n.symm.trans hf) |>.symm
      obtain rfl:fn=Tryz.f12:=(Option.some.inj (Tryz.func12.symm.trans hfn)).symm
      exact⟨pf_l,fun j t ht=>by
        rw[Tryz.params12] at ht
        have hm:t∈[49,9]:=by simpa using Array.mem_of_getElem? ht
        have hall:([49,9].all fun u => !Tryz.prog.wantsStandIn u)=true:=by kernel_rfl
        exact(show Tryz.prog.wantsStandIn t=false by simpa using List.all_eq_true.1 hall t hm)⟩)
    pf_g
#print axioms proved
end Go.Proofs.YthohohfmdieohaaGreatDoor.fnExactDropBelow
namespace Go.Proofs.YthohohfmdieohaaGreatDoor
theorem fnExactDropBelow_holds:Rows.FnExactDropBelowCardSaid:=fnExactDropBelow.proved
end Go.Proofs.YthohohfmdieohaaGreatDoor
