
import Derived.Test.YtbgbbdbolldfcaaGreatDoorRows
import Derived.Test.YtbgbbdbolldfcaaGreatDoorTie
import Derived.Test.YtbgbbdbolldfcaaGreatDoorCards
import Derived.WalkKit
import Derived.ProofKit
import Derived.OpenShut
import Derived.ShutString
import Derived.ChangeOld
import Derived.Below
import Derived.SizedLaws
import Derived.Carry
import Derived.LaidMore
import Derived.Lay
import Derived.SevenTiedAt
import Derived.Stop.Joined
import Derived.Test.YtbgbbdbolldfcaaGreatDoorZLawFnExactApplyDiffb
import Derived.Test.YtbgbbdbolldfcaaGreatDoorLawFnExactApplyDiffc
namespace Go.Proofs.YtbgbbdbolldfcaaGreatDoor.fnExactApplyDiff
open Go.ChangeShapes Go.WideShapes Go.ChangeAt Go.RowKit Go.Proofs.YtbgbbdbolldfcaaGreatDoor.PR Go.Proofs.YtbgbbdbolldfcaaGreatDoor.Pp Go.Proofs.YtbgbbdbolldfcaaGreatDoorW.PrintWords
open Go.ChangeMaps (open_string shut_string)
set_option linter.unusedVariables false
theorem proved:Rows.FnExactApplyDiffCardSaid :=
  Claim7.holds_tied_plain_at .later [] [.data,.data,.data,.data,.sentinel,.sentinel,.pinned] true (true, "3508e34884bcfaf448b00e43ae05d0f589845c3f216913c5cb2ded9cac9857dc") true over (fun _ h=>by cases h) pf_w (fun _ h=>by cases h) fnExactApplyDiff_row_tie rfl ⟨rfl,rfl⟩ pf_m rfl
    (fun f fn hf hfn=>by
      obtain rfl:f=3:=Option.some.inj (pf_n.symm.trans hf) |>.symm
      obtain rfl:fn=Tryz.f3:=(Option.some.inj (Tryz.func3.symm.trans hfn)).symm
      exact⟨pf_l,fun j t ht=>by
        rw[Tryz.params3] at ht
        have hm:t∈[24,26]:=by simpa using Array.mem_of_getElem? ht
        have hall:([24,26].all fun u => !Tryz.prog.wantsStandIn u)=true:=by kernel_rfl
        exact(show Tryz.prog.wantsStandIn t=false by simpa using List.all_eq_true.1 hall t hm)⟩)
    pf_g
#print axioms proved
end Go.Proofs.YtbgbbdbolldfcaaGreatDoor.fnExactApplyDiff
namespace Go.Proofs.YtbgbbdbolldfcaaGreatDoor
theorem fnExactApplyDiff_holds:Rows.FnExactApplyDiffCardSaid:=fnExactApplyDiff.proved
end Go.Proofs.YtbgbbdbolldfcaaGreatDoor
