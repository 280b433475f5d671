
import Derived.Test.YtldinehdhmbkmaaGreatDoorRows
import Derived.Test.YtldinehdhmbkmaaGreatDoorTie
import Derived.Test.YtldinehdhmbkmaaGreatDoorCards
import Derived.WalkKit
import Derived.ProofKit
import Derived.OpenShut
import Derived.ShutString
import Derived.ChangeOld
import Derived.Below
import Derived.SizedLaws
import Derived.Carry
import Derived.LaidMore
import Derived.Lay
import Derived.SevenTiedAt
import Derived.Stop.Joined
import Derived.Test.YtldinehdhmbkmaaGreatDoorZLawFnExactProveAbsentb
import Derived.Test.YtldinehdhmbkmaaGreatDoorLawFnExactProveAbsentc
namespace Go.Proofs.YtldinehdhmbkmaaGreatDoor.fnExactProveAbsent
open Go.ChangeShapes Go.WideShapes Go.ChangeAt Go.RowKit Go.Proofs.YtldinehdhmbkmaaGreatDoor.PR Go.Proofs.YtldinehdhmbkmaaGreatDoor.Pp Go.Proofs.YtldinehdhmbkmaaGreatDoorW.PrintWords
open Go.ChangeMaps (open_string shut_string)
set_option linter.unusedVariables false
theorem proved:Rows.FnExactProveAbsentCardSaid :=
  Claim7.holds_tied_plain_at .later [] [.data,.data,.data,.data,.sentinel,.sentinel,.pinned] true (true, "2a562bfc25e86c5d2419eeaa3614d5b3e2e7d9d1f344bfcfe4cf64836ba7e492") true over (fun _ h=>by cases h) pf_w (fun _ h=>by cases h) fnExactProveAbsent_row_tie rfl ⟨rfl,rfl⟩ pf_m rfl
    (fun f fn hf hfn=>by
      obtain rfl:f=3:=Option.some.inj (pf_n.symm.trans hf) |>.symm
      obtain rfl:fn=Tryz.f3:=(Option.some.inj (Tryz.func3.symm.trans hfn)).symm
      exact⟨pf_l,fun j t ht=>by
        rw[Tryz.params3] at ht
        have hm:t∈[24,9]:=by simpa using Array.mem_of_getElem? ht
        have hall:([24,9].all fun u => !Tryz.prog.wantsStandIn u)=true:=by kernel_rfl
        exact(show Tryz.prog.wantsStandIn t=false by simpa using List.all_eq_true.1 hall t hm)⟩)
    pf_g
#print axioms proved
end Go.Proofs.YtldinehdhmbkmaaGreatDoor.fnExactProveAbsent
namespace Go.Proofs.YtldinehdhmbkmaaGreatDoor
theorem fnExactProveAbsent_holds:Rows.FnExactProveAbsentCardSaid:=fnExactProveAbsent.proved
end Go.Proofs.YtldinehdhmbkmaaGreatDoor
