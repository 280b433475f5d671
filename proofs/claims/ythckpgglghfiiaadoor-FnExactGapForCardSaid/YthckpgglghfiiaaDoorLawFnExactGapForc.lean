-- pp
import Derived.Test.YthckpgglghfiiaaDoorRows
import Derived.Test.YthckpgglghfiiaaDoorTie
import Derived.Test.YthckpgglghfiiaaDoorCards
import Derived.WalkKit
import Derived.ProofKit
import Derived.OpenShut
import Derived.ShutString
import Derived.ChangeOld
import Derived.Below
import Derived.SizedLaws
import Derived.Carry
import Derived.LaidMore
import Derived.Lay
import Derived.SevenTiedAt
import Derived.Stop.Joined
namespace Go.Proofs.YthckpgglghfiiaaDoor.fnExactGapFor
open Go.ChangeShapes Go.WideShapes Go.ChangeAt Go.RowKit
open Go.ChangeMaps (open_string shut_string)
set_option linter.unusedVariables false
theorem pf_w : Rows.fnExactGapForRow.wfByText (OpenSpec.ofChange Rows.fnExactGapForSpec) = true := by kernel_rfl
theorem pf_m : Tryd.pinned.checked.prog.mainIs = some (true, "cb87c1219d048ddf424901ebcd42e702b31b9f379267189f2eac78d926a7f856".toList) := by kernel_rfl
theorem pf_l : false = Tryd.pinned.checked.prog.looks [] := by kernel_rfl
theorem pf_g : false = Rows.fnExactGapForRow.goesBy Tryd.pinned.checked.prog := by kernel_rfl
theorem pf_n : Tryd.prog.funcNamed "loop.example/g00300/laws.FnExactGapFor" = some 12 := by kernel_rfl
end Go.Proofs.YthckpgglghfiiaaDoor.fnExactGapFor
