
import Derived.Test.YtbgbbdbolldfcaaGreatDoorRows
import Derived.Test.YtbgbbdbolldfcaaGreatDoorTie
import Derived.Test.YtbgbbdbolldfcaaGreatDoorCards
import Derived.WalkKit
import Derived.ProofKit
import Derived.OpenShut
import Derived.ShutString
import Derived.ChangeOld
import Derived.Below
import Derived.SizedLaws
import Derived.Carry
import Derived.LaidMore
import Derived.Lay
import Derived.SevenTiedAt
import Derived.Stop.Joined
namespace Go.Proofs.YtbgbbdbolldfcaaGreatDoor.fnExactApplyDiff
open Go.ChangeShapes Go.WideShapes Go.ChangeAt Go.RowKit
open Go.ChangeMaps (open_string shut_string)
set_option linter.unusedVariables false
theorem pf_w:Rows.fnExactApplyDiffRow.wfByText (OpenSpec.ofChange Rows.fnExactApplyDiffSpec)=true:=by kernel_rfl
theorem pf_m:Tryz.pinned.checked.prog.mainIs=some (true, "3508e34884bcfaf448b00e43ae05d0f589845c3f216913c5cb2ded9cac9857dc".toList):=by kernel_rfl
theorem pf_l:true=Tryz.pinned.checked.prog.looks []:=by kernel_rfl
theorem pf_g:false=Rows.fnExactApplyDiffRow.goesBy Tryz.pinned.checked.prog:=by kernel_rfl
theorem pf_n:Tryz.prog.funcNamed "loop.example/g00300/laws.FnExactApplyDiff" = some 3:=by kernel_rfl
end Go.Proofs.YtbgbbdbolldfcaaGreatDoor.fnExactApplyDiff
