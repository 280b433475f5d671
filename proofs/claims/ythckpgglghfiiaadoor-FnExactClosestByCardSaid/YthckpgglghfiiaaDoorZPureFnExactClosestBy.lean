/- ClosestBy: the program answers as the reference does. -/
import Derived.Test.YthckpgglghfiiaaDoorJFnExactClosestBy0
import Derived.Test.YthckpgglghfiiaaDoorJFnExactClosestBy1
import Derived.Test.YthckpgglghfiiaaDoorJFnExactClosestBy2
import Derived.Test.YthckpgglghfiiaaDoorZLPClosest2
import Derived.Test.YthckpgglghfiiaaDoorZLPGap
set_option linter.unusedVariables false
set_option linter.unusedSimpArgs false
namespace Go.Proofs.YthckpgglghfiiaaDoor.Pure
open Go.RowKit Go.Proofs.YthckpgglghfiiaaDoor.Pp Go.Proofs.YthckpgglghfiiaaDoor.PB Go.Proofs.YthckpgglghfiiaaDoor.PL Go.Proofs.YthckpgglghfiiaaDoorW.PrintWords Go.Proofs.YthckpgglghfiiaaDoorW.PrintLast
theorem FnExactClosestBy : laws_FnExactClosestBy.Pure := by
  intro o n l x ho hn h _
  refine Ev.get (g := fun k => laws_FnExactClosestBy.f k o n l x) ?_
  unfold laws_FnExactClosestBy.f
  by_cases hz : (x.size : Int) > 1048576
  · exact Ev.pos hz (Ev.const rfl)
  have hx : x.size ≤ 1048576 := by omega
  refine Ev.neg hz ?_
  obtain ⟨t, ht, hs⟩ := szGap_eq o n l ho hn h.1 1048576 (by omega) (by omega)
  refine Ev.bind' _ ht ?_
  rcases hs with hs | ⟨hs, _, ho', hn', hl⟩
  · exact Ev.pos hs (Ev.const rfl)
  · have hto := toGap_eq o n l hl
    obtain ⟨r, r1, r2⟩ := closestAll o n x l ho' hn' hx
    refine Ev.neg (by omega) (Ev.bind' _ hto (Ev.bind' _ r1 (Ev.bind' _ hto (Ev.bind' _ r2 (Ev.pos rfl (Ev.succ ?_))))))
    simp only [laws_FnExactClosestBy.j0]
    exact Ev.neg (by simp) (Ev.bind' _ hto (Ev.bind' _ (eqGap_eq o n l hl) (Ev.ite_true (Ev.const rfl))))
end Go.Proofs.YthckpgglghfiiaaDoor.Pure
