/- IsUp: the program answers as the reference does. -/
import Derived.Test.YthckpgglghfiiaaDoorJFnExactIsUp0
import Derived.Test.YthckpgglghfiiaaDoorJFnExactIsUp1
import Derived.Test.YthckpgglghfiiaaDoorJFnExactIsUp2
import Derived.Test.YthckpgglghfiiaaDoorJFnExactIsUp3
import Derived.Test.YthckpgglghfiiaaDoorZLPIsUp
set_option linter.unusedVariables false
set_option linter.unusedSimpArgs false
namespace Go.Proofs.YthckpgglghfiiaaDoor.Pure
open Go.RowKit Go.Proofs.YthckpgglghfiiaaDoor.Pp Go.Proofs.YthckpgglghfiiaaDoor.PB Go.Proofs.YthckpgglghfiiaaDoor.PL Go.Proofs.YthckpgglghfiiaaDoorW.PrintWords Go.Proofs.YthckpgglghfiiaaDoorW.PrintLast
theorem FnExactIsUp : laws_FnExactIsUp.Pure := by
  intro n m l a _ _ h _
  refine Ev.get (g := fun k => laws_FnExactIsUp.f k n m l a) ?_
  unfold laws_FnExactIsUp.f
  by_cases hz : (a.size : Int) > 1048576
  · exact Ev.pos hz (Ev.const rfl)
  refine Ev.neg hz ?_
  obtain ⟨t, ht, hs⟩ := szHealth_eq n m l h 1048576 (by omega) (by omega)
  refine Ev.bind' _ ht ?_
  rcases hs with hs | ⟨hs, _, hl, hb⟩
  · exact Ev.pos hs (Ev.const rfl)
  · have hcl : (l.map cHost).length ≤ 1048576 := by simpa using hl
    have hcs : ∀ x ∈ l.map cHost, x.f0.size ≤ 1048576 := by
      intro x hx
      obtain ⟨y, hy, rfl⟩ := List.mem_map.mp hx
      exact hb y hy
    have hto := toHealth_eq n m l hl
    have heq := eqHealth_eq n m (l.map cHost) hcl
    refine Ev.neg (by omega) (Ev.bind' _ hto ?_)
    refine Ev.bind' _ (specIsUp_eq n m _ a hcl hcs) (Ev.bind' _ hto (Ev.bind' _ (implIsUp_eq n m _ a hcl hcs) (Ev.neg (by simp) (Ev.succ ?_))))
    simp only [laws_FnExactIsUp.j0]
    exact Ev.neg (by simp) (Ev.bind' _ hto (Ev.bind' _ heq (Ev.ite_true (Ev.const rfl))))
end Go.Proofs.YthckpgglghfiiaaDoor.Pure
