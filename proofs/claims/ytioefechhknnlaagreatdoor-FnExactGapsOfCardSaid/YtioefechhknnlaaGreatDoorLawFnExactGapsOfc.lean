
import Derived.Test.YtioefechhknnlaaGreatDoorRows
import Derived.Test.YtioefechhknnlaaGreatDoorTie
import Derived.Test.YtioefechhknnlaaGreatDoorCards
import Derived.WalkKit
import Derived.ProofKit
import Derived.OpenShut
import Derived.ShutString
import Derived.ChangeOld
import Derived.Below
import Derived.SizedLaws
import Derived.Carry
import Derived.LaidMore
import Derived.Lay
import Derived.SevenTiedAt
import Derived.Stop.Joined
namespace Go.Proofs.YtioefechhknnlaaGreatDoor.fnExactGapsOf
open Go.ChangeShapes Go.WideShapes Go.ChangeAt Go.RowKit
open Go.ChangeMaps (open_string shut_string)
set_option linter.unusedVariables false
theorem pf_w:Rows.fnExactGapsOfRow.wfByText (OpenSpec.ofChange Rows.fnExactGapsOfSpec)=true:=by kernel_rfl
theorem pf_m:Tryz.pinned.checked.prog.mainIs=some (true, "2b1c9ea4bf982221146e1a0f01eb70fbe7466642cc478b8bf9e3182885c0fc20".toList):=by kernel_rfl
theorem pf_l:true=Tryz.pinned.checked.prog.looks []:=by kernel_rfl
theorem pf_g:false=Rows.fnExactGapsOfRow.goesBy Tryz.pinned.checked.prog:=by kernel_rfl
theorem pf_n:Tryz.prog.funcNamed "loop.example/g00300/laws.FnExactGapsOf" = some 9:=by kernel_rfl
end Go.Proofs.YtioefechhknnlaaGreatDoor.fnExactGapsOf
