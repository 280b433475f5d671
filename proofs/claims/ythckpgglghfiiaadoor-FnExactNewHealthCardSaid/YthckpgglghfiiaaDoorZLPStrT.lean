/- Lists of strings: copied. -/
import Derived.Test.YthckpgglghfiiaaDoorZLPTy
import Derived.Test.YthckpgglghfiiaaDoorJFnExactNewHealth0
import Derived.Test.YthckpgglghfiiaaDoorJFnExactNewHealth1
import Derived.Test.YthckpgglghfiiaaDoorJFnExactNewHealth2
import Derived.Test.YthckpgglghfiiaaDoorJFnExactNewHealth3
import Derived.Test.YthckpgglghfiiaaDoorJFnExactNewHealth4
set_option linter.unusedVariables false
set_option linter.unusedSimpArgs false
namespace Go.Proofs.YthckpgglghfiiaaDoor.PL
open Go.RowKit Go.Proofs.YthckpgglghfiiaaDoor.Pp Go.Proofs.YthckpgglghfiiaaDoor.PB Go.Proofs.YthckpgglghfiiaaDoorW.PrintWords Go.Proofs.YthckpgglghfiiaaDoorW.PrintLast
theorem toStringS_eq (l : List ByteArray) (hl : l.length ≤ 1048576) : Ev (fun k => laws_toStringS.f k l) l := by
  unfold laws_toStringS.f
  refine Ev.pos (by omega) (Ev.pos (by simp; omega) ?_)
  refine Ev.eq_ (to_list l id (fun k s i => laws_toStringS.l0 k l s i) ?_ ?_ _ (by simp)) (by simp)
  · intro s
    apply Ev.succ
    simp only [laws_toStringS.l0]
    exact Ev.neg (by omega) (Ev.const rfl)
  · intro p x t s r e hs h
    have hm := len_mid e
    apply Ev.succ
    simp only [laws_toStringS.l0, rdOf_mid e]
    rw [w64 (i := (p.length : Int) + 1) (by omega) (by omega)]
    exact Ev.pos hm.1 (Ev.pos (by omega) (Ev.pos (by omega) h))
end Go.Proofs.YthckpgglghfiiaaDoor.PL
