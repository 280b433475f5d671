
import Derived.Test.YtenpejebbeoceaaGreatDoorRows
import Derived.Test.YtenpejebbeoceaaGreatDoorTie
import Derived.Test.YtenpejebbeoceaaGreatDoorCards
import Derived.WalkKit
import Derived.ProofKit
import Derived.OpenShut
import Derived.ShutString
import Derived.ChangeOld
import Derived.Below
import Derived.SizedLaws
import Derived.Carry
import Derived.LaidMore
import Derived.Lay
import Derived.SevenTiedAt
import Derived.Stop.Joined
namespace Go.Proofs.YtenpejebbeoceaaGreatDoor.fnExactCatchUp
open Go.ChangeShapes Go.WideShapes Go.ChangeAt Go.RowKit
open Go.ChangeMaps (open_string shut_string)
set_option linter.unusedVariables false
theorem pf_w:Rows.fnExactCatchUpRow.wfByText (OpenSpec.ofChange Rows.fnExactCatchUpSpec)=true:=by kernel_rfl
theorem pf_m:Tryz.pinned.checked.prog.mainIs=some (true, "b5520854fad25970d97b257217888f9d81fcaa2b0b88d2a7ec8c1641cec9599c".toList):=by kernel_rfl
theorem pf_l:true=Tryz.pinned.checked.prog.looks []:=by kernel_rfl
theorem pf_g:false=Rows.fnExactCatchUpRow.goesBy Tryz.pinned.checked.prog:=by kernel_rfl
theorem pf_n:Tryz.prog.funcNamed "loop.example/g00300/laws.FnExactCatchUp" = some 3:=by kernel_rfl
end Go.Proofs.YtenpejebbeoceaaGreatDoor.fnExactCatchUp
