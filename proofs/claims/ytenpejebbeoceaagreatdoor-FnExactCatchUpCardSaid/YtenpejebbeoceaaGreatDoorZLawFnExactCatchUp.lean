
import Derived.Test.YtenpejebbeoceaaGreatDoorRows
import Derived.Test.YtenpejebbeoceaaGreatDoorTie
import Derived.Test.YtenpejebbeoceaaGreatDoorCards
import Derived.WalkKit
import Derived.ProofKit
import Derived.OpenShut
import Derived.ShutString
import Derived.ChangeOld
import Derived.Below
import Derived.SizedLaws
import Derived.Carry
import Derived.LaidMore
import Derived.Lay
import Derived.SevenTiedAt
import Derived.Stop.Joined
import Derived.Test.YtenpejebbeoceaaGreatDoorZLawFnExactCatchUpb
import Derived.Test.YtenpejebbeoceaaGreatDoorLawFnExactCatchUpc
namespace Go.Proofs.YtenpejebbeoceaaGreatDoor.fnExactCatchUp
open Go.ChangeShapes Go.WideShapes Go.ChangeAt Go.RowKit Go.Proofs.YtenpejebbeoceaaGreatDoor.PR Go.Proofs.YtenpejebbeoceaaGreatDoor.Pp Go.Proofs.YtenpejebbeoceaaGreatDoorW.PrintWords
open Go.ChangeMaps (open_string shut_string)
set_option linter.unusedVariables false
theorem proved:Rows.FnExactCatchUpCardSaid :=
  Claim7.holds_tied_plain_at .later [] [.data,.data,.data,.data,.sentinel,.sentinel,.pinned] true (true, "b5520854fad25970d97b257217888f9d81fcaa2b0b88d2a7ec8c1641cec9599c") true over (fun _ h=>by cases h) pf_w (fun _ h=>by cases h) fnExactCatchUp_row_tie rfl ⟨rfl,rfl⟩ pf_m rfl
    (fun f fn hf hfn=>by
      obtain rfl:f=3:=Option.some.inj (pf_n.symm.trans hf) |>.symm
      obtain rfl:fn=Tryz.f3:=(Option.some.inj (Tryz.func3.symm.trans hfn)).symm
      exact⟨pf_l,fun j t ht=>by
        rw[Tryz.params3] at ht
        have hm:t∈[24,27]:=by simpa using Array.mem_of_getElem? ht
        have hall:([24,27].all fun u => !Tryz.prog.wantsStandIn u)=true:=by kernel_rfl
        exact(show Tryz.prog.wantsStandIn t=false by simpa using List.all_eq_true.1 hall t hm)⟩)
    pf_g
#print axioms proved
end Go.Proofs.YtenpejebbeoceaaGreatDoor.fnExactCatchUp
namespace Go.Proofs.YtenpejebbeoceaaGreatDoor
theorem fnExactCatchUp_holds:Rows.FnExactCatchUpCardSaid:=fnExactCatchUp.proved
end Go.Proofs.YtenpejebbeoceaaGreatDoor
