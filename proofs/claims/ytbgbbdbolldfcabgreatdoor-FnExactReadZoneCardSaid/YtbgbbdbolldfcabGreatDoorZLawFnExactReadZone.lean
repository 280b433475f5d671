
import Derived.Test.YtbgbbdbolldfcabGreatDoorRows
import Derived.Test.YtbgbbdbolldfcabGreatDoorTie
import Derived.Test.YtbgbbdbolldfcabGreatDoorCards
import Derived.WalkKit
import Derived.ProofKit
import Derived.OpenShut
import Derived.ShutString
import Derived.ChangeOld
import Derived.Below
import Derived.SizedLaws
import Derived.Carry
import Derived.LaidMore
import Derived.Lay
import Derived.SevenTiedAt
import Derived.Stop.Joined
import Derived.Test.YtbgbbdbolldfcabGreatDoorZLawFnExactReadZoneb
import Derived.Test.YtbgbbdbolldfcabGreatDoorLawFnExactReadZonec
namespace Go.Proofs.YtbgbbdbolldfcabGreatDoor.fnExactReadZone
open Go.ChangeShapes Go.WideShapes Go.ChangeAt Go.RowKit Go.Proofs.YtbgbbdbolldfcabGreatDoor.PR Go.Proofs.YtbgbbdbolldfcabGreatDoor.Pp Go.Proofs.YtbgbbdbolldfcabGreatDoorW.PrintWords
open Go.ChangeMaps (open_string shut_string)
set_option linter.unusedVariables false
theorem proved:Rows.FnExactReadZoneCardSaid :=
  Claim7.holds_tied_plain_at .later [] [.data,.data,.data,.data,.sentinel,.sentinel,.pinned] true (true, "bb634a7ba945b5389116d9c280a4ff80c9a983291a3fca7c286ddc43688492fb") true over (fun _ h=>by cases h) pf_w (fun _ h=>by cases h) fnExactReadZone_row_tie rfl ⟨rfl,rfl⟩ pf_m rfl
    (fun f fn hf hfn=>by
      obtain rfl:f=3:=Option.some.inj (pf_n.symm.trans hf) |>.symm
      obtain rfl:fn=Tryz.f3:=(Option.some.inj (Tryz.func3.symm.trans hfn)).symm
      exact⟨pf_l,fun j t ht=>by
        rw[Tryz.params3] at ht
        have hm:t∈[9]:=by simpa using Array.mem_of_getElem? ht
        have hall:([9].all fun u => !Tryz.prog.wantsStandIn u)=true:=by kernel_rfl
        exact(show Tryz.prog.wantsStandIn t=false by simpa using List.all_eq_true.1 hall t hm)⟩)
    pf_g
#print axioms proved
end Go.Proofs.YtbgbbdbolldfcabGreatDoor.fnExactReadZone
namespace Go.Proofs.YtbgbbdbolldfcabGreatDoor
theorem fnExactReadZone_holds:Rows.FnExactReadZoneCardSaid:=fnExactReadZone.proved
end Go.Proofs.YtbgbbdbolldfcabGreatDoor
