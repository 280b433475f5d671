
import Derived.Test.YtioefechhknnlaaGreatDoorRows
import Derived.Test.YtioefechhknnlaaGreatDoorTie
import Derived.Test.YtioefechhknnlaaGreatDoorCards
import Derived.WalkKit
import Derived.ProofKit
import Derived.OpenShut
import Derived.ShutString
import Derived.ChangeOld
import Derived.Below
import Derived.SizedLaws
import Derived.Carry
import Derived.LaidMore
import Derived.Lay
import Derived.SevenTiedAt
import Derived.Stop.Joined
import Derived.Test.YtioefechhknnlaaGreatDoorZLawFnExactGapsOfb
import Derived.Test.YtioefechhknnlaaGreatDoorLawFnExactGapsOfc
namespace Go.Proofs.YtioefechhknnlaaGreatDoor.fnExactGapsOf
open Go.ChangeShapes Go.WideShapes Go.ChangeAt Go.RowKit Go.Proofs.YtioefechhknnlaaGreatDoor.PR Go.Proofs.YtioefechhknnlaaGreatDoor.Pp Go.Proofs.YtioefechhknnlaaGreatDoorW.PrintWords
open Go.ChangeMaps (open_string shut_string)
set_option linter.unusedVariables false
theorem proved:Rows.FnExactGapsOfCardSaid :=
  Claim7.holds_tied_plain_at .later [] [.data,.data,.data,.data,.sentinel,.sentinel,.pinned] true (true, "2b1c9ea4bf982221146e1a0f01eb70fbe7466642cc478b8bf9e3182885c0fc20") true over (fun _ h=>by cases h) pf_w (fun _ h=>by cases h) fnExactGapsOf_row_tie rfl ⟨rfl,rfl⟩ pf_m rfl
    (fun f fn hf hfn=>by
      obtain rfl:f=9:=Option.some.inj (pf_n.symm.trans hf) |>.symm
      obtain rfl:fn=Tryz.f9:=(Option.some.inj (Tryz.func9.symm.trans hfn)).symm
      exact⟨pf_l,fun j t ht=>by
        rw[Tryz.params9] at ht
        have hm:t∈[24]:=by simpa using Array.mem_of_getElem? ht
        have hall:([24].all fun u => !Tryz.prog.wantsStandIn u)=true:=by kernel_rfl
        exact(show Tryz.prog.wantsStandIn t=false by simpa using List.all_eq_true.1 hall t hm)⟩)
    pf_g
#print axioms proved
end Go.Proofs.YtioefechhknnlaaGreatDoor.fnExactGapsOf
namespace Go.Proofs.YtioefechhknnlaaGreatDoor
theorem fnExactGapsOf_holds:Rows.FnExactGapsOfCardSaid:=fnExactGapsOf.proved
end Go.Proofs.YtioefechhknnlaaGreatDoor
