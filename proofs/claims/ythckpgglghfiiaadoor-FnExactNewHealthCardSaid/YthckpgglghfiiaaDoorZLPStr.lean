/- Lists of strings: compared. -/
import Derived.Test.YthckpgglghfiiaaDoorZLPTy
import Derived.Test.YthckpgglghfiiaaDoorJFnExactNewHealth0
import Derived.Test.YthckpgglghfiiaaDoorJFnExactNewHealth1
import Derived.Test.YthckpgglghfiiaaDoorJFnExactNewHealth2
import Derived.Test.YthckpgglghfiiaaDoorJFnExactNewHealth3
import Derived.Test.YthckpgglghfiiaaDoorJFnExactNewHealth4
set_option linter.unusedVariables false
set_option linter.unusedSimpArgs false
namespace Go.Proofs.YthckpgglghfiiaaDoor.PL
open Go.RowKit Go.Proofs.YthckpgglghfiiaaDoor.Pp Go.Proofs.YthckpgglghfiiaaDoor.PB Go.Proofs.YthckpgglghfiiaaDoorW.PrintWords Go.Proofs.YthckpgglghfiiaaDoorW.PrintLast
theorem eqStringS_eq (l : List ByteArray) (hl : l.length ≤ 1048576) : Ev (fun k => laws_eqStringS.f k l l) true := by
  unfold laws_eqStringS.f
  refine Ev.pos rfl (eq_list l (fun k i => laws_eqStringS.l0 k l l i) ?_ ?_)
  · apply Ev.succ
    simp only [laws_eqStringS.l0]
    exact Ev.neg (by omega) (Ev.const rfl)
  · intro p x t e h
    have hm := len_mid e
    apply Ev.succ
    simp only [laws_eqStringS.l0]
    rw [w64 (i := (p.length : Int) + 1) (by omega) (by omega)]
    exact Ev.pos hm.1 (Ev.pos (by omega) (Ev.pos hm.1 (Ev.pos (by trivial) h)))
end Go.Proofs.YthckpgglghfiiaaDoor.PL
