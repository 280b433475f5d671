/- RowOf: the program answers as the reference does. -/
import Derived.Test.YthckpgglghfiiaaDoorJFnExactRowOf0
import Derived.Test.YthckpgglghfiiaaDoorJFnExactRowOf1
import Derived.Test.YthckpgglghfiiaaDoorJFnExactRowOf2
import Derived.Test.YthckpgglghfiiaaDoorZLPRowOf
set_option linter.unusedVariables false
set_option linter.unusedSimpArgs false
namespace Go.Proofs.YthckpgglghfiiaaDoor.Pure
open Go.RowKit Go.Proofs.YthckpgglghfiiaaDoor.Pp Go.Proofs.YthckpgglghfiiaaDoor.PB Go.Proofs.YthckpgglghfiiaaDoor.PL Go.Proofs.YthckpgglghfiiaaDoorW.PrintWords Go.Proofs.YthckpgglghfiiaaDoorW.PrintLast
theorem FnExactRowOf : laws_FnExactRowOf.Pure := by
  intro n m l i _ _ h _
  refine Ev.get (g := fun k => laws_FnExactRowOf.f k n m l i) ?_
  unfold laws_FnExactRowOf.f
  obtain ⟨t, ht, hs⟩ := szHealth_eq n m l h 1048576 (by omega) (by omega)
  refine Ev.bind' _ ht ?_
  rcases hs with hs | ⟨hs, _, hl, hb⟩
  · exact Ev.pos hs (Ev.const rfl)
  · have hcl : (l.map cHost).length ≤ 1048576 := by simpa using hl
    have hcs : ∀ x ∈ l.map cHost, x.f0.size ≤ 1048576 := by
      intro x hx
      obtain ⟨y, hy, rfl⟩ := List.mem_map.mp hx
      exact hb y hy
    have hto := toHealth_eq n m l hl
    have heq := eqHealth_eq n m (l.map cHost) hcl
    refine Ev.neg (by omega) (Ev.bind' _ hto ?_)
    refine Ev.bind' _ (specRowOf_eq n m _ i hcl hcs) (Ev.bind' _ hto (Ev.bind' _ (implRowOf_eq n m _ i hcl hcs) (Ev.pos rfl (Ev.succ ?_))))
    simp only [laws_FnExactRowOf.j0]
    exact Ev.neg (by simp) (Ev.bind' _ hto (Ev.bind' _ heq (Ev.ite_true (Ev.const rfl))))
end Go.Proofs.YthckpgglghfiiaaDoor.Pure
