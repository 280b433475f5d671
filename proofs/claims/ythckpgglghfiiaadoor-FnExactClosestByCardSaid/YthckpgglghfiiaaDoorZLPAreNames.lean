/- areNames. -/
import Derived.Test.YthckpgglghfiiaaDoorZLPName
import Derived.Test.YthckpgglghfiiaaDoorJFnExactClosestBy0
import Derived.Test.YthckpgglghfiiaaDoorJFnExactClosestBy1
import Derived.Test.YthckpgglghfiiaaDoorJFnExactClosestBy2
import Derived.Test.YthckpgglghfiiaaDoorZLIdxstringstringareNames1
set_option linter.unusedVariables false
set_option linter.unusedSimpArgs false
namespace Go.Proofs.YthckpgglghfiiaaDoor.PL
open Go.RowKit Go.Proofs.YthckpgglghfiiaaDoor.Pp Go.Proofs.YthckpgglghfiiaaDoor.PB Go.Proofs.YthckpgglghfiiaaDoorW.PrintWords Go.Proofs.YthckpgglghfiiaaDoorW.PrintLast
theorem areNames_eq (l : List ByteArray) (hl : l.length ≤ 1048576) (hs : ∀ x ∈ l, x.size ≤ 1048576) : Ev (fun k => impl_areNames.f k l) (l.all nameOk) := by
  unfold impl_areNames.f
  refine Ev.bind' _ (slices_ContainsFunc_string_string_areNames_1.any l (fun x => !nameOk x) hl (fun x hx => ?_)) (Ev.const ?_)
  · unfold impl_areNames_1.f
    exact Ev.bind' _ (implGoodName_eq x (hs x hx)) (Ev.const rfl)
  · rw [any_not]; simp
end Go.Proofs.YthckpgglghfiiaaDoor.PL
