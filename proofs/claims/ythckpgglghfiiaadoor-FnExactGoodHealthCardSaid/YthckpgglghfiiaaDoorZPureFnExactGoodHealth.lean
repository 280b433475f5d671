/- GoodHealth: the program answers as the reference does. -/
import Derived.Test.YthckpgglghfiiaaDoorJFnExactGoodHealth0
import Derived.Test.YthckpgglghfiiaaDoorJFnExactGoodHealth1
import Derived.Test.YthckpgglghfiiaaDoorJFnExactGoodHealth2
import Derived.Test.YthckpgglghfiiaaDoorZLPHealth
set_option linter.unusedVariables false
set_option linter.unusedSimpArgs false
namespace Go.Proofs.YthckpgglghfiiaaDoor.Pure
open Go.RowKit Go.Proofs.YthckpgglghfiiaaDoor.Pp Go.Proofs.YthckpgglghfiiaaDoor.PB Go.Proofs.YthckpgglghfiiaaDoor.PL Go.Proofs.YthckpgglghfiiaaDoorW.PrintWords Go.Proofs.YthckpgglghfiiaaDoorW.PrintLast
theorem FnExactGoodHealth : laws_FnExactGoodHealth.Pure := by
  intro n m l _ _ h
  refine Ev.get (g := fun k => laws_FnExactGoodHealth.f k n m l) ?_
  unfold laws_FnExactGoodHealth.f
  obtain ⟨t, ht, hs⟩ := szHealth_eq n m l h 1048576 (by omega) (by omega)
  refine Ev.bind' _ ht ?_
  rcases hs with hs | ⟨hs, _, hl, hb⟩
  · exact Ev.pos hs (Ev.const rfl)
  · have hcl : (l.map cHost).length ≤ 1048576 := by simpa using hl
    have hcs : ∀ x ∈ l.map cHost, x.f0.size ≤ 1048576 := by
      intro x hx
      obtain ⟨y, hy, rfl⟩ := List.mem_map.mp hx
      exact hb y hy
    have hto := toHealth_eq n m l hl
    have heq := eqHealth_eq n m (l.map cHost) hcl
    refine Ev.neg (by omega) (Ev.bind' _ hto ?_)
    refine Ev.bind' _ (specGoodHealth_eq n m _ hcl hcs) (Ev.bind' _ hto (Ev.bind' _ (implGoodHealth_eq n m _ hcl hcs) ?_))
    exact Ev.neg (by simp) (Ev.bind' _ hto (Ev.bind' _ heq (Ev.ite_true (Ev.const rfl))))
end Go.Proofs.YthckpgglghfiiaaDoor.Pure
