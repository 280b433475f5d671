
import Derived.Test.YthohohfmdieohaaGreatDoorRows
import Derived.Test.YthohohfmdieohaaGreatDoorTie
import Derived.Test.YthohohfmdieohaaGreatDoorCards
import Derived.WalkKit
import Derived.ProofKit
import Derived.OpenShut
import Derived.ShutString
import Derived.ChangeOld
import Derived.Below
import Derived.SizedLaws
import Derived.Carry
import Derived.LaidMore
import Derived.Lay
import Derived.SevenTiedAt
import Derived.Stop.Joined
namespace Go.Proofs.YthohohfmdieohaaGreatDoor.fnExactPassTime
open Go.ChangeShapes Go.WideShapes Go.ChangeAt Go.RowKit
open Go.ChangeMaps (open_string shut_string)
set_option linter.unusedVariables false
theorem pf_w:Rows.fnExactPassTimeRow.wfByText (OpenSpec.ofChange Rows.fnExactPassTimeSpec)=true:=by kernel_rfl
theorem pf_m:Tryz.pinned.checked.prog.mainIs=some (true, "beb463bcedd4628fe05652827a51c94b0278649e5918e2ff09b3d9e8bfd38f11".toList):=by kernel_rfl
theorem pf_l:true=Tryz.pinned.checked.prog.looks []:=by kernel_rfl
theorem pf_g:false=Rows.fnExactPassTimeRow.goesBy Tryz.pinned.checked.prog:=by kernel_rfl
theorem pf_n:Tryz.prog.funcNamed "loop.example/g00300/laws.FnExactPassTime" = some 11:=by kernel_rfl
end Go.Proofs.YthohohfmdieohaaGreatDoor.fnExactPassTime
