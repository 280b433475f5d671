
import Derived.Test.YthohohfmdieohaaGreatDoorRows
import Derived.Test.YthohohfmdieohaaGreatDoorTie
import Derived.Test.YthohohfmdieohaaGreatDoorCards
import Derived.WalkKit
import Derived.ProofKit
import Derived.OpenShut
import Derived.ShutString
import Derived.ChangeOld
import Derived.Below
import Derived.SizedLaws
import Derived.Carry
import Derived.LaidMore
import Derived.Lay
import Derived.SevenTiedAt
import Derived.Stop.Joined
import Derived.Test.YthohohfmdieohaaGreatDoorZLawFnExactPassTimeb
import Derived.Test.YthohohfmdieohaaGreatDoorLawFnExactPassTimec
namespace Go.Proofs.YthohohfmdieohaaGreatDoor.fnExactPassTime
open Go.ChangeShapes Go.WideShapes Go.ChangeAt Go.RowKit Go.Proofs.YthohohfmdieohaaGreatDoor.PR Go.Proofs.YthohohfmdieohaaGreatDoor.Pp Go.Proofs.YthohohfmdieohaaGreatDoorW.PrintWords
open Go.ChangeMaps (open_string shut_string)
set_option linter.unusedVariables false
theorem proved:Rows.FnExactPassTimeCardSaid :=
  Claim7.holds_tied_plain_at .later [] [.data,.data,.data,.data,.sentinel,.sentinel,.pinned] true (true, "beb463bcedd4628fe05652827a51c94b0278649e5918e2ff09b3d9e8bfd38f11") true over (fun _ h=>by cases h) pf_w (fun _ h=>by cases h) fnExactPassTime_row_tie rfl ⟨rfl,rfl⟩ pf_m rfl
    (fun f fn hf hfn=>by
      obtain rfl:f=11:=Option.some.inj (pf_n.symm.trans hf) |>.symm
      obtain rfl:fn=Tryz.f11:=(Option.some.inj (Tryz.func11.symm.trans hfn)).symm
      exact⟨pf_l,fun j t ht=>by
        rw[Tryz.params11] at ht
        have hm:t∈[49,3]:=by simpa using Array.mem_of_getElem? ht
        have hall:([49,3].all fun u => !Tryz.prog.wantsStandIn u)=true:=by kernel_rfl
        exact(show Tryz.prog.wantsStandIn t=false by simpa using List.all_eq_true.1 hall t hm)⟩)
    pf_g
#print axioms proved
end Go.Proofs.YthohohfmdieohaaGreatDoor.fnExactPassTime
namespace Go.Proofs.YthohohfmdieohaaGreatDoor
theorem fnExactPassTime_holds:Rows.FnExactPassTimeCardSaid:=fnExactPassTime.proved
end Go.Proofs.YthohohfmdieohaaGreatDoor
