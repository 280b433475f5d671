
import Derived.Test.YtldinehdhmbkmaaGreatDoorRows
import Derived.Test.YtldinehdhmbkmaaGreatDoorTie
import Derived.Test.YtldinehdhmbkmaaGreatDoorCards
import Derived.WalkKit
import Derived.ProofKit
import Derived.OpenShut
import Derived.ShutString
import Derived.ChangeOld
import Derived.Below
import Derived.SizedLaws
import Derived.Carry
import Derived.LaidMore
import Derived.Lay
import Derived.SevenTiedAt
import Derived.Stop.Joined
namespace Go.Proofs.YtldinehdhmbkmaaGreatDoor.fnExactProveAbsent
open Go.ChangeShapes Go.WideShapes Go.ChangeAt Go.RowKit
open Go.ChangeMaps (open_string shut_string)
set_option linter.unusedVariables false
theorem pf_w:Rows.fnExactProveAbsentRow.wfByText (OpenSpec.ofChange Rows.fnExactProveAbsentSpec)=true:=by kernel_rfl
theorem pf_m:Tryz.pinned.checked.prog.mainIs=some (true, "2a562bfc25e86c5d2419eeaa3614d5b3e2e7d9d1f344bfcfe4cf64836ba7e492".toList):=by kernel_rfl
theorem pf_l:true=Tryz.pinned.checked.prog.looks []:=by kernel_rfl
theorem pf_g:false=Rows.fnExactProveAbsentRow.goesBy Tryz.pinned.checked.prog:=by kernel_rfl
theorem pf_n:Tryz.prog.funcNamed "loop.example/g00300/laws.FnExactProveAbsent" = some 3:=by kernel_rfl
end Go.Proofs.YtldinehdhmbkmaaGreatDoor.fnExactProveAbsent
