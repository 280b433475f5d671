
import Derived.Test.YtbgajeomljkdjaaGreatDoorRows
import Derived.Test.YtbgajeomljkdjaaGreatDoorTie
import Derived.Test.YtbgajeomljkdjaaGreatDoorCards
import Derived.WalkKit
import Derived.ProofKit
import Derived.OpenShut
import Derived.ShutString
import Derived.ChangeOld
import Derived.Below
import Derived.SizedLaws
import Derived.Carry
import Derived.LaidMore
import Derived.Lay
import Derived.SevenTiedAt
import Derived.Stop.Joined
namespace Go.Proofs.YtbgajeomljkdjaaGreatDoor.fnExactApplyBatch
open Go.ChangeShapes Go.WideShapes Go.ChangeAt Go.RowKit
open Go.ChangeMaps (open_string shut_string)
set_option linter.unusedVariables false
theorem pf_w:Rows.fnExactApplyBatchRow.wfByText (OpenSpec.ofChange Rows.fnExactApplyBatchSpec)=true:=by kernel_rfl
theorem pf_m:Tryz.pinned.checked.prog.mainIs=some (true, "044a110110aa67535488eace3515e64b20da4ce999aad1162c0ea40ad9bcd067".toList):=by kernel_rfl
theorem pf_l:true=Tryz.pinned.checked.prog.looks []:=by kernel_rfl
theorem pf_g:false=Rows.fnExactApplyBatchRow.goesBy Tryz.pinned.checked.prog:=by kernel_rfl
theorem pf_n:Tryz.prog.funcNamed "loop.example/g00300/laws.FnExactApplyBatch" = some 4:=by kernel_rfl
end Go.Proofs.YtbgajeomljkdjaaGreatDoor.fnExactApplyBatch
