
import Derived.Test.YtbgbbdbolldfcabGreatDoorRows
import Derived.Test.YtbgbbdbolldfcabGreatDoorTie
import Derived.Test.YtbgbbdbolldfcabGreatDoorCards
import Derived.WalkKit
import Derived.ProofKit
import Derived.OpenShut
import Derived.ShutString
import Derived.ChangeOld
import Derived.Below
import Derived.SizedLaws
import Derived.Carry
import Derived.LaidMore
import Derived.Lay
import Derived.SevenTiedAt
import Derived.Stop.Joined
namespace Go.Proofs.YtbgbbdbolldfcabGreatDoor.fnExactReadZone
open Go.ChangeShapes Go.WideShapes Go.ChangeAt Go.RowKit
open Go.ChangeMaps (open_string shut_string)
set_option linter.unusedVariables false
theorem pf_w:Rows.fnExactReadZoneRow.wfByText (OpenSpec.ofChange Rows.fnExactReadZoneSpec)=true:=by kernel_rfl
theorem pf_m:Tryz.pinned.checked.prog.mainIs=some (true, "bb634a7ba945b5389116d9c280a4ff80c9a983291a3fca7c286ddc43688492fb".toList):=by kernel_rfl
theorem pf_l:true=Tryz.pinned.checked.prog.looks []:=by kernel_rfl
theorem pf_g:false=Rows.fnExactReadZoneRow.goesBy Tryz.pinned.checked.prog:=by kernel_rfl
theorem pf_n:Tryz.prog.funcNamed "loop.example/g00300/laws.FnExactReadZone" = some 3:=by kernel_rfl
end Go.Proofs.YtbgbbdbolldfcabGreatDoor.fnExactReadZone
