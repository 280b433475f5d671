
import Derived.Test.YtbgajeomljkdjaaGreatDoorRows
import Derived.Test.YtbgajeomljkdjaaGreatDoorTie
import Derived.Test.YtbgajeomljkdjaaGreatDoorCards
import Derived.WalkKit
import Derived.ProofKit
import Derived.OpenShut
import Derived.ShutString
import Derived.ChangeOld
import Derived.Below
import Derived.SizedLaws
import Derived.Carry
import Derived.LaidMore
import Derived.Lay
import Derived.SevenTiedAt
import Derived.Stop.Joined
import Derived.Test.YtbgajeomljkdjaaGreatDoorZLawFnExactApplyBatchb
import Derived.Test.YtbgajeomljkdjaaGreatDoorLawFnExactApplyBatchc
namespace Go.Proofs.YtbgajeomljkdjaaGreatDoor.fnExactApplyBatch
open Go.ChangeShapes Go.WideShapes Go.ChangeAt Go.RowKit Go.Proofs.YtbgajeomljkdjaaGreatDoor.PR Go.Proofs.YtbgajeomljkdjaaGreatDoor.Pp Go.Proofs.YtbgajeomljkdjaaGreatDoorW.PrintWords
open Go.ChangeMaps (open_string shut_string)
set_option linter.unusedVariables false
theorem proved:Rows.FnExactApplyBatchCardSaid :=
  Claim7.holds_tied_plain_at .later [] [.data,.data,.data,.data,.sentinel,.sentinel,.pinned] true (true, "044a110110aa67535488eace3515e64b20da4ce999aad1162c0ea40ad9bcd067") true over (fun _ h=>by cases h) pf_w (fun _ h=>by cases h) fnExactApplyBatch_row_tie rfl ⟨rfl,rfl⟩ pf_m rfl
    (fun f fn hf hfn=>by
      obtain rfl:f=4:=Option.some.inj (pf_n.symm.trans hf) |>.symm
      obtain rfl:fn=Tryz.f4:=(Option.some.inj (Tryz.func4.symm.trans hfn)).symm
      exact⟨pf_l,fun j t ht=>by
        rw[Tryz.params4] at ht
        have hm:t∈[24,43]:=by simpa using Array.mem_of_getElem? ht
        have hall:([24,43].all fun u => !Tryz.prog.wantsStandIn u)=true:=by kernel_rfl
        exact(show Tryz.prog.wantsStandIn t=false by simpa using List.all_eq_true.1 hall t hm)⟩)
    pf_g
#print axioms proved
end Go.Proofs.YtbgajeomljkdjaaGreatDoor.fnExactApplyBatch
namespace Go.Proofs.YtbgajeomljkdjaaGreatDoor
theorem fnExactApplyBatch_holds:Rows.FnExactApplyBatchCardSaid:=fnExactApplyBatch.proved
end Go.Proofs.YtbgajeomljkdjaaGreatDoor
